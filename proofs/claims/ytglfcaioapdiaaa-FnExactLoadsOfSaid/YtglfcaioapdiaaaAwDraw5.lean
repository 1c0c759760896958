/-
  A region that draws its order, said of the abstract state: the operations are shown once, in the text's order.
-/
import Derived.Test.YtglfcaioapdiaaaAwTac
namespace Go.Proofs.Ytglfcaioapdiaaa.Aw
open Go Go.RowKit

structure PO where
  dst : Option Nat
  v : AV
  E : List (Nat × Option Blk)
  lo : Nat
  hi : Nat

def lkE : List (Nat × Option Blk) → Nat → Option (Option Blk)
  | [], _ => none
  | (i, b) :: l, k => match Nat.beq i k with
    | true => some b
    | false => lkE l k
theorem lkE_cons (i : Nat) (b : Option Blk) (l : List (Nat × Option Blk)) (k : Nat) : lkE ((i, b) :: l) k = if i = k then some b else lkE l k := by
  show (match Nat.beq i k with | true => some b | false => lkE l k) = _
  by_cases h : i = k
  · subst h; rw [Nat.beq_refl, if_pos rfl]
  · have : Nat.beq i k = false := by
      cases hb : Nat.beq i k
      · rfl
      · exact absurd (Nat.eq_of_beq_eq_true hb) h
    rw [this, if_neg h]
def ovr : List (Nat × Option Blk) → Hp → Hp
  | [], H => H
  | (i, some b) :: l, H => (i, b) :: del (ovr l H) i
  | (i, none) :: l, H => del (ovr l H) i
theorem look_ovr : ∀ (E : List (Nat × Option Blk)) (H : Hp) (k : Nat), look (ovr E H) k = (lkE E k).getD (look H k)
  | [], H, k => rfl
  | (i, some b) :: l, H, k => by
    simp only [ovr, look_cons, lkE_cons]
    by_cases h : i = k
    · simp [h]
    · rw [if_neg h, if_neg h, look_del_ne _ (fun e => h e.symm)]; exact look_ovr l H k
  | (i, none) :: l, H, k => by
    simp only [ovr, lkE_cons]
    by_cases h : i = k
    · subst h; simp [look_del_same]
    · rw [if_neg h, look_del_ne _ (fun e => h e.symm)]; exact look_ovr l H k

def selT (L : Nat → Bool) : Nat → List PO → Tp → Tp
  | _, [], T => T
  | k, p :: ps, T => selT L (k + 1) ps (match L k with
    | true => put T p.dst p.v
    | false => T)
def selH (L : Nat → Bool) : Nat → List PO → Hp → Hp
  | _, [], H => H
  | k, p :: ps, H => selH L (k + 1) ps (match L k with
    | true => ovr p.E H
    | false => H)

theorem look_put (T : Tp) (d : Option Nat) (v : AV) (t : Nat) : look (put T d v) t = if d = some t then some v else look T t := by
  cases d with
  | none => simp [put]
  | some d => simp [put, look_cons]

theorem selT_congr {L L' : Nat → Bool} {t : Nat} : ∀ (ps : List PO) (k : Nat) (T T' : Tp), look T t = look T' t → (∀ j p, ps[j]? = some p → p.dst = some t → L (k + j) = L' (k + j)) → look (selT L k ps T) t = look (selT L' k ps T') t
  | [], k, T, T', h, _ => h
  | p :: ps, k, T, T', h, hj => by
    simp only [selT]
    refine selT_congr ps (k + 1) _ _ ?_ (fun j q hq hd => by have := hj (j + 1) q (by simpa using hq) hd; rw [show k + 1 + j = k + (j + 1) by omega]; exact this)
    have h0 := hj 0 p rfl
    rw [Nat.add_zero] at h0
    by_cases hd : p.dst = some t
    · rw [← h0 hd]
      cases L k
      · exact h
      · simp [look_put, hd]
    · cases L k <;> cases L' k <;> simp [look_put, hd, h]
theorem selH_congr {L L' : Nat → Bool} {t : Nat} : ∀ (ps : List PO) (k : Nat) (H H' : Hp), look H t = look H' t → (∀ j p, ps[j]? = some p → lkE p.E t ≠ none → L (k + j) = L' (k + j)) → look (selH L k ps H) t = look (selH L' k ps H') t
  | [], k, H, H', h, _ => h
  | p :: ps, k, H, H', h, hj => by
    simp only [selH]
    refine selH_congr ps (k + 1) _ _ ?_ (fun j q hq hd => by have := hj (j + 1) q (by simpa using hq) hd; rw [show k + 1 + j = k + (j + 1) by omega]; exact this)
    have h0 := hj 0 p rfl
    rw [Nat.add_zero] at h0
    cases hd : lkE p.E t with
    | none => cases L k <;> cases L' k <;> simp [look_ovr, hd, h]
    | some b =>
      rw [← h0 (by simp [hd])]
      cases L k
      · exact h
      · simp [look_ovr, hd]
theorem selT_app (L : Nat → Bool) : ∀ (ps qs : List PO) (k : Nat) (T : Tp), selT L k (ps ++ qs) T = selT L (k + ps.length) qs (selT L k ps T)
  | [], qs, k, T => by simp [selT]
  | p :: ps, qs, k, T => by simp only [List.cons_append, selT, List.length_cons]; rw [selT_app L ps qs]; congr 1; omega
theorem selH_app (L : Nat → Bool) : ∀ (ps qs : List PO) (k : Nat) (H : Hp), selH L k (ps ++ qs) H = selH L (k + ps.length) qs (selH L k ps H)
  | [], qs, k, H => by simp [selH]
  | p :: ps, qs, k, H => by simp only [List.cons_append, selH, List.length_cons]; rw [selH_app L ps qs]; congr 1; omega
/-- what a selection's heap holds comes from the beginning or out of one of the selected -/
theorem selH_from {L : Nat → Bool} {i : Nat} {b : Blk} : ∀ (ps : List PO) (k : Nat) (H : Hp), look (selH L k ps H) i = some b → look H i = some b ∨ ∃ j p, ps[j]? = some p ∧ L (k + j) = true ∧ lkE p.E i = some (some b)
  | [], k, H, h => .inl h
  | p :: ps, k, H, h => by
    simp only [selH] at h
    rcases selH_from ps (k + 1) _ h with h1 | ⟨j, q, h1, h2, h3⟩
    · cases hL : L k with
      | false => rw [hL] at h1; exact .inl h1
      | true =>
        rw [hL] at h1
        simp only [look_ovr] at h1
        cases he : lkE p.E i with
        | none => rw [he] at h1; exact .inl h1
        | some ob => rw [he] at h1; simp only [Option.getD_some] at h1; subst h1; exact .inr ⟨0, p, rfl, by simpa using hL, he⟩
    · exact .inr ⟨j + 1, q, by simpa using h1, by rw [show k + (j + 1) = k + 1 + j by omega]; exact h2, h3⟩

def resT (ts : List Tmp) (T : Tp) : Tp := ts.filterMap fun t => (look T t).map fun v => (t, v)
theorem look_resT {ts : List Tmp} {T : Tp} {t : Nat} {v : AV} (h : look (resT ts T) t = some v) : t ∈ ts ∧ look T t = some v := by
  induction ts with
  | nil => simp [resT, look_nil] at h
  | cons u ts ih =>
    unfold resT at h ih
    rw [List.filterMap_cons] at h
    cases hu : look T u with
    | none => simp only [hu, Option.map_none] at h; obtain ⟨h1, h2⟩ := ih h; exact ⟨List.mem_cons_of_mem _ h1, h2⟩
    | some x =>
      simp only [hu, Option.map_some, look_cons] at h
      split at h
      · rename_i he; subst he; simp only [Option.some.injEq] at h; subst h; exact ⟨List.mem_cons_self, hu⟩
      · obtain ⟨h1, h2⟩ := ih h; exact ⟨List.mem_cons_of_mem _ h1, h2⟩

def depM (bs ks : List Nat) (i j : Nat) : Bool := Nat.testBit (bs.getD i 0) j && Nat.blt 0 (ks.getD j 0) && Nat.blt j i

/-- (operation, block) for each load that needs but the one block: kept behind the kinds -/
def rdP : List Nat → List (Nat × Nat)
  | a :: b :: l => (a, b) :: rdP l
  | _ => []
def SameAt (ops : Array Oper) (ks : List Nat) (H₀ : Hp) (i : Nat) (H : Hp) : Prop := ∀ id, (i, id) ∈ rdP (ks.drop ops.size) → look H id = look H₀ id
def FactT (P : Program) (N : Nat) (ops : Array Oper) (o : Oper) (T : Tp) (Hd : Hp) (k : Nat) (C : Hp → Prop) (p : PO) : Prop :=
  p.dst = o.dst ∧ dOk N o.dst = true ∧
  ((∃ j b t y, o.guard = some (j, b) ∧ ((ops[j]?).bind (·.dst)) = some t ∧ Nat.blt t N = true ∧ look T t = some (.v y) ∧ noG y b = true ∧ p.v = .v undef ∧ p.E = [] ∧ p.lo = p.hi) ∨
   ((o.guard = none ∨ ∃ j b t, o.guard = some (j, b) ∧ ((ops[j]?).bind (·.dst)) = some t ∧ Nat.blt t N = true ∧ look T t = some (.v (.bool b))) ∧
    ((k = 0 ∧ p.E = [] ∧ p.lo = p.hi ∧ ∀ H n, C H → Step P o N T H n p.v H n true) ∨
     (k = 1 ∧ ∃ U, p.E = U.map (fun x => (x.1, some x.2)) ∧ (∀ i b, look U i = some b → p.lo ≤ i ∧ i < p.hi) ∧ Step P o N T Hd p.lo p.v (U ++ Hd) p.hi true) ∨
     (k = 3 ∧ ∃ U, p.E = U.map (fun x => (x.1, some x.2)) ∧ (∀ i b, look U i = some b → p.lo ≤ i ∧ i < p.hi) ∧ Step P o N T [] p.lo p.v U p.hi true) ∨
     (k = 2 ∧ ∃ H', (∀ i, look H' i = look (ovr p.E Hd) i) ∧ (∀ i ob, lkE p.E i = some ob → (look Hd i).isSome = true ∨ (p.lo ≤ i ∧ i < p.hi)) ∧ Step P o N T Hd p.lo p.v H' p.hi false))))

/-- the blocks of such loads stand until they have come -/
def KeepR (ops : Array Oper) (bs ks : List Nat) (H₀ : Hp) (ps : List PO) : Prop :=
  ∀ (L : Nat → Bool) (i id : Nat), (i, id) ∈ rdP (ks.drop ops.size) → (∀ j, j < ops.size → Nat.testBit (bs.getD j 0) i = true → L j = false) → look (selH L 0 ps H₀) id = look H₀ id
def DR (P : Program) (N : Nat) (ops : Array Oper) (bs ks : List Nat) (H₀ : Hp) (G : Tp → Hp → Nat → Prop) : Nat → List PO → List Oper → Tp → Nat → Prop
  | _, pre, [], T, n => G T (selH (fun _ => true) 0 pre H₀) n ∧ KeepR ops bs ks H₀ pre
  | i, pre, o :: os, T, n => ∃ p, p.lo = n ∧ n ≤ p.hi ∧ FactT P N ops o (resT (o.looksAt ops) T) (selH (depM bs ks i) 0 pre H₀) (ks.getD i 0) (SameAt ops ks H₀ i) p ∧ DR P N ops bs ks H₀ G (i + 1) (pre ++ [p]) os (put T o.dst p.v) p.hi

/-- all of it, as a list of outcomes -/
theorem DR.all {P : Program} {N : Nat} {ops : Array Oper} {bs ks : List Nat} {H₀ : Hp} {G : Tp → Hp → Nat → Prop} (T₀ : Tp) : ∀ (os : List Oper) (pre : List PO) (T : Tp) (n : Nat), T = selT (fun _ => true) 0 pre T₀ → DR P N ops bs ks H₀ G pre.length pre os T n →
    ∃ (ps : List PO) (n' : Nat), ps.length = os.length ∧ n ≤ n' ∧ (G (selT (fun _ => true) 0 (pre ++ ps) T₀) (selH (fun _ => true) 0 (pre ++ ps) H₀) n' ∧ KeepR ops bs ks H₀ (pre ++ ps)) ∧
      (∀ (j : Nat) (p : PO), ps[j]? = some p → n ≤ p.lo ∧ p.lo ≤ p.hi ∧ p.hi ≤ n') ∧ (∀ (i j : Nat) (p q : PO), ps[i]? = some p → ps[j]? = some q → i < j → p.hi ≤ q.lo) ∧
      (∀ x, n ≤ x → x < n' → ∃ (j : Nat) (p : PO), ps[j]? = some p ∧ p.lo ≤ x ∧ x < p.hi) ∧
      ∀ (j : Nat) (o : Oper), os[j]? = some o → ∃ p, ps[j]? = some p ∧
        FactT P N ops o (resT (o.looksAt ops) (selT (fun _ => true) 0 (pre ++ ps.take j) T₀)) (selH (depM bs ks (pre.length + j)) 0 (pre ++ ps.take j) H₀) (ks.getD (pre.length + j) 0) (SameAt ops ks H₀ (pre.length + j)) p
  | [], pre, T, n, hT, h => ⟨[], n, rfl, Nat.le_refl _, by subst hT; simpa [DR] using h, by simp, by simp, fun x h1 h2 => absurd h2 (by omega), by simp⟩
  | o :: os, pre, T, n, hT, h => by
    obtain ⟨p, h1, h2, h3, h4⟩ := h
    have h4 : DR P N ops bs ks H₀ G (pre ++ [p]).length (pre ++ [p]) os (put T o.dst p.v) p.hi := by rw [List.length_append]; exact h4
    have hT' : put T o.dst p.v = selT (fun _ => true) 0 (pre ++ [p]) T₀ := by
      rw [selT_app, ← hT]
      simp only [selT]
      rw [h3.1]
    obtain ⟨ps, n', g1, g2, g3, g4, g5, g6, g7⟩ := DR.all T₀ os (pre ++ [p]) _ p.hi hT' h4
    refine ⟨p :: ps, n', by simp [g1], by omega, by simpa using g3, fun j q hq => ?_, fun i j a b hi hj hij => ?_, fun x hx1 hx2 => ?_, fun j o' ho' => ?_⟩
    · cases j with
      | zero => simp at hq; subst hq; omega
      | succ j => simp at hq; have := g4 j q hq; omega
    · cases j with
      | zero => omega
      | succ j =>
        simp at hj
        cases i with
        | zero => simp at hi; subst hi; exact (g4 j b hj).1
        | succ i => simp at hi; exact g5 i j a b hi hj (by omega)
    · by_cases hx : x < p.hi
      · exact ⟨0, p, rfl, by omega, hx⟩
      · obtain ⟨j, q, hq, h⟩ := g6 x (by omega) hx2
        exact ⟨j + 1, q, by simpa using hq, h⟩
    · cases j with
      | zero =>
        simp at ho'
        subst ho'
        exact ⟨p, rfl, by simpa [hT] using h3⟩
      | succ j =>
        simp at ho'
        obtain ⟨q, hq, hf⟩ := g7 j o' ho'
        refine ⟨q, by simpa using hq, ?_⟩
        simp only [List.length_append, List.length_cons, List.length_nil, Nat.zero_add, List.append_assoc, List.singleton_append] at hf
        rw [show pre.length + 1 + j = pre.length + (j + 1) by omega] at hf
        simpa using hf

/-- the check of a region: 'bs' names some of those that come before each operation; what may meet is ordered -/
def ordB (bs : List Nat) (i j : Nat) : Bool := Nat.testBit (bs.getD i 0) j || Nat.testBit (bs.getD j 0) i
def chkB (ops : List Oper) (bs ks : List Nat) : Bool :=
  Nat.beq bs.length ops.length && Nat.ble ops.length ks.length && Region.noSelect ops.toArray &&
  (List.range ops.length).all fun i => match ops[i]? with
    | none => true
    | some o =>
      o.after.all (fun e => !Region.binds .any e || Nat.blt e.on i) &&
      (List.range ops.length).all fun j =>
        (!Nat.testBit (bs.getD i 0) j || (Nat.blt j i && (o.after.any (fun e => Region.binds .any e && (Nat.beq e.on j || Nat.testBit (bs.getD e.on 0) j))) && (Nat.beq ((bs.getD i 0) ||| (bs.getD j 0)) (bs.getD i 0)))) &&
        (Nat.beq i j || ordB bs i j || (match ops[j]? with
          | none => true
          | some o' => (match o'.dst with
            | some d => !(o.looksAt ops.toArray).contains d && o.dst != some d
            | none => true))) &&
        (Nat.beq i j || ordB bs i j || !(Nat.beq (ks.getD i 0) 2) || Nat.beq (ks.getD j 0) 0 || Nat.beq (ks.getD j 0) 3)

end Go.Proofs.Ytglfcaioapdiaaa.Aw

-- A region that draws its order: soundness.
namespace Go.Proofs.Ytglfcaioapdiaaa.Aw
open Go Go.RowKit

theorem selT_false {L : Nat → Bool} : ∀ (ps : List PO) (k : Nat) (T : Tp), (∀ j, j < ps.length → L (k + j) = false) → selT L k ps T = T
  | [], _, _, _ => rfl
  | p :: ps, k, T, h => by
    have h0 := h 0 (by simp)
    rw [Nat.add_zero] at h0
    simp only [selT, h0]
    exact selT_false ps (k + 1) T (fun j hj => by have := h (j + 1) (by simpa using hj); rw [show k + 1 + j = k + (j + 1) by omega]; exact this)
theorem selH_false {L : Nat → Bool} : ∀ (ps : List PO) (k : Nat) (H : Hp), (∀ j, j < ps.length → L (k + j) = false) → selH L k ps H = H
  | [], _, _, _ => rfl
  | p :: ps, k, H, h => by
    have h0 := h 0 (by simp)
    rw [Nat.add_zero] at h0
    simp only [selH, h0]
    exact selH_false ps (k + 1) H (fun j hj => by have := h (j + 1) (by simpa using hj); rw [show k + 1 + j = k + (j + 1) by omega]; exact this)
theorem selT_take {L : Nat → Bool} {i : Nat} (ps : List PO) (T : Tp) (t : Nat) (h : ∀ j p, ps[j]? = some p → p.dst = some t → L j = decide (j < i)) :
    look (selT L 0 ps T) t = look (selT (fun _ => true) 0 (ps.take i) T) t := by
  have e : selT (fun j => decide (j < i)) 0 ps T = selT (fun j => decide (j < i)) 0 (ps.take i) T := by
    have := selT_app (fun j => decide (j < i)) (ps.take i) (ps.drop i) 0 T
    rw [List.take_append_drop] at this
    rw [this]
    refine selT_false _ _ _ fun j hj => ?_
    simp only [List.length_drop] at hj
    simp [List.length_take]
    omega
  rw [selT_congr ps 0 T T rfl (L' := fun j => decide (j < i)) (fun j p hp hd => by rw [Nat.zero_add]; exact h j p hp hd), e]
  refine selT_congr _ 0 T T rfl fun j p hp _ => ?_
  have : j < (ps.take i).length := (List.getElem?_eq_some_iff.1 hp).1
  simp only [List.length_take] at this
  simp
  omega
theorem selH_take {L : Nat → Bool} {i : Nat} (ps : List PO) (H : Hp) (hL : ∀ j, L j = true → j < i) : selH L 0 ps H = selH L 0 (ps.take i) H := by
  have := selH_app L (ps.take i) (ps.drop i) 0 H
  rw [List.take_append_drop] at this
  rw [this]
  refine selH_false _ _ _ fun j hj => ?_
  simp only [List.length_drop] at hj
  cases hl : L (0 + (List.take i ps).length + j) with
  | false => rfl
  | true =>
    have := hL _ hl
    simp only [List.length_take] at this
    omega
theorem selH_ins {L L' : Nat → Bool} {i id : Nat} {q : PO} : ∀ (ps : List PO) (k : Nat) (H H' : Hp), look H id = look H' id → k ≤ i → ps[i - k]? = some q → L i = false → L' i = true → (∀ j, j ≠ i → L' j = L j) → (∀ j p, ps[j]? = some p → i < k + j → L (k + j) = true → lkE p.E id = none) →
    look (selH L' k ps H) id = (lkE q.E id).getD (look (selH L k ps H') id)
  | [], k, H, H', _, _, hq, _, _, _, _ => by simp at hq
  | p :: ps, k, H, H', h, hk, hq, h1, h2, h3, h4 => by
    simp only [selH]
    by_cases hki : k = i
    · subst hki
      simp only [Nat.sub_self, List.getElem?_cons_zero, Option.some.injEq] at hq
      subst hq
      rw [h1, h2]
      have rest : ∀ j r, ps[j]? = some r → L (k + 1 + j) = true → lkE r.E id = none := fun j r hr hl => h4 (j + 1) r (by simpa using hr) (by omega) (by rw [show k + (j + 1) = k + 1 + j by omega]; exact hl)
      have a1 : look (selH L' (k + 1) ps (ovr p.E H)) id = look (ovr p.E H) id := by
        rw [selH_congr ps (k + 1) _ (ovr p.E H) rfl (L' := fun _ => false) (fun j r hr hm => by
          rw [h3 (k + 1 + j) (by omega)]
          cases hl : L (k + 1 + j) with
          | false => rfl
          | true => exact absurd (rest j r hr hl) hm), selH_false]
        exact fun _ _ => rfl
      have a2 : look (selH L (k + 1) ps H') id = look (selH L (k + 1) ps H') id := rfl
      cases he : lkE p.E id with
      | some ob => rw [a1, look_ovr, he]; rfl
      | none =>
        rw [Option.getD_none]
        refine selH_congr ps (k + 1) _ _ (by rw [look_ovr, he]; exact h) fun j r _ _ => ?_
        exact h3 _ (by omega)
    · have hlt : k < i := by omega
      rw [h3 k hki]
      refine selH_ins ps (k + 1) _ _ ?_ (by omega) (by rw [show i - k = (i - (k + 1)) + 1 by omega] at hq; simpa using hq) h1 h2 h3 (fun j r hr hij hl => ?_)
      · cases L k
        · exact h
        · rw [look_ovr, look_ovr, h]
      · exact h4 (j + 1) r (by simpa using hr) (by omega) (by rw [show k + (j + 1) = k + 1 + j by omega]; exact hl)

/-- new blocks beside all that is there -/
theorem Rel.frame {Old : Nat → Prop} {wi : WI} {K : Nat → Prop} {m m' : Nat → Loc} {S : Nat → Prop} {H Hd U : Hp} {w w' : World} {lo hi : Nat} {v : AV} {r : Value} (hr : Rel Old wi K m S H w) (hS : ∀ i, lo ≤ i → i < hi → ¬ S i)
    (hU : ∀ i b, look U i = some b → lo ≤ i ∧ i < hi) {K' : Nat → Prop} (ha : Aft Old wi K m S w lo v (U ++ Hd) hi true r w' m' K') : Rel Old wi K' m' (addS S lo hi) (U ++ H) w' := by
  obtain ⟨hb, hnew, hkn⟩ := ha.fr rfl
  have hS' : ∀ i, S i → m' i = m i := fun i hi' => ha.ag i (fun hc => hS i hc.1 hc.2 hi')
  have part : ∀ i b, look (U ++ H) i = some b → look U i = some b ∨ (look U i = none ∧ look H i = some b) := fun i b hl => by
    rw [look_append] at hl
    cases hu : look U i with
    | some b' => rw [hu] at hl; simp at hl; exact .inl (by rw [hl])
    | none => rw [hu] at hl; simp at hl; exact .inr ⟨rfl, hl⟩
  have big : ∀ i b, look U i = some b → look (U ++ Hd) i = some b := fun i b hu => by rw [look_append, hu]; rfl
  refine { os := ha.rel.os, tape := ha.rel.tape, output := ha.rel.output, size := ha.rel.size, old := ha.rel.old, olt := ha.rel.olt, oown := ?_, om := ?_, kb := ha.rel.kb, pin := ha.rel.pin, pinS := ha.rel.pinS, inS := ?_, own := ?_, inj := ?_ }
  · intro i b hl
    rcases part i b hl with hu | ⟨_, hh⟩
    · exact ha.rel.oown i b (big i b hu)
    · rw [hS' i (hr.inS i b hh)]; exact hr.oown i b hh
  · intro i b hl
    rcases part i b hl with hu | ⟨_, hh⟩
    · exact ha.rel.om i b (big i b hu)
    · rw [hS' i (hr.inS i b hh)]; exact fun hp hq => ⟨(hr.om i b hh hp hq).1, ha.gk.1 _ (hr.om i b hh hp hq).2.1, (hr.om i b hh hp hq).2.2⟩
  · intro i b hl
    rcases part i b hl with hu | ⟨_, hh⟩
    · exact .inr (hU i b hu)
    · exact .inl (hr.inS i b hh)
  · intro i b hl
    rcases part i b hl with hu | ⟨_, hh⟩
    · exact ha.rel.own i b (big i b hu)
    · exact (hr.own i b hh).mono2 ha.gk.1 (fun hp hk => hkn _ hk ((hr.own i b hh).br hp).lt_size) ha.kk (fun _ h => hb.block _ h.lt_size) (fun i hi => .inl hi) hS' (hr.inS i b hh)
  · intro i j bi bj hi' hj' hne
    rcases part i bi hi' with hui | ⟨_, hhi⟩ <;> rcases part j bj hj' with huj | ⟨_, hhj⟩
    · exact ha.rel.inj i j bi bj (big i bi hui) (big j bj huj) hne
    · intro hp
      have h1 := hnew i (hU i bi hui).1 (hU i bi hui).2 hp
      rw [hS' j (hr.inS j bj hhj)]
      intro hp'
      have := ((hr.own j bj hhj).br hp').lt_size
      omega
    · rw [hS' i (hr.inS i bi hhi)]
      intro hp' hp
      have h1 := hnew j (hU j bj huj).1 (hU j bj huj).2 hp
      have := ((hr.own i bi hhi).br hp').lt_size
      omega
    · rw [hS' i (hr.inS i bi hhi), hS' j (hr.inS j bj hhj)]
      exact hr.inj i j bi bj hhi hhj hne

/-- a write, beside blocks that it does not know of -/
theorem Step.framed {P : Program} {o : Oper} {N : Nat} {T : Tp} {Hd H' : Hp} {lo hi : Nat} {v : AV} {E : List (Nat × Option Blk)} (hst : Step P o N T Hd lo v H' hi false) (hH' : ∀ i, look H' i = look (ovr E Hd) i)
    {Old : Nat → Prop} {wi : WI} {K : Nat → Prop} {m : Nat → Loc} {S : Nat → Prop} {H : Hp} {a : Act} {w : World} (hr : Rel Old wi K m S H w) (hsub : ∀ i b, look Hd i = some b → look H i = some b) (hS : ∀ i, lo ≤ i → i < hi → ¬ S i) (ht : TRel K w m S N T a)
    (hx : ∀ i, look H i = look Hd i ∨ (look Hd i = none ∧ lkE E i = none)) (next : Act → World → Prop) (Q : Exit → Act → World → Prop)
    (hn : ∀ r w' m' K', (∀ i, ¬ (lo ≤ i ∧ i < hi) → m' i = m i) → GK Old K K' → Rel Old wi K' m' (addS S lo hi) (ovr E H) w' → VR K' w' m' (addS S lo hi) v r → (∀ k, K k → w'.heap[k]? = w.heap[k]?) → next (a.put o.dst r) w') : o.wp P a w next Q := by
  have hrd : Rel Old wi K m S Hd w := hr.sub hsub
  obtain ⟨Old', hO⟩ : ∃ Old' : Nat → Prop, ∀ k, Old' k ↔ (k < w.heap.size ∧ (∀ i b, look Hd i = some b → (m i).ph = false → (m i).blk ≠ k) ∧ ∀ i b, look Hd i = some b → (m i).ph = true → (m i).cap = 1 → (m i).blk ≠ k) := ⟨_, fun _ => Iff.rfl⟩
  have hOO : ∀ k, Old k → Old' k := fun k hk => (hO k).2 ⟨hr.olt k hk, fun i b hl hp e => hrd.oown i b hl hp (e ▸ hk), fun i b hl hp hq e => (hrd.om i b hl hp hq).2.2 (e ▸ hk)⟩
  have hr0 : Rel Old' ⟨w, fun _ => none⟩ K m S Hd w :=
    { os := rfl, tape := rfl, output := rfl, size := Nat.le_refl _, old := fun _ _ => rfl, olt := fun k hk => ((hO k).1 hk).1, oown := fun i b hl hp ho => ((hO _).1 ho).2.1 i b hl hp rfl, om := fun i b hl hp hq => ⟨(hrd.om i b hl hp hq).1, (hrd.om i b hl hp hq).2.1, fun ho => ((hO _).1 ho).2.2 i b hl hp hq rfl⟩, kb := hrd.kb, inS := hrd.inS, pin := fun _ _ h => (by cases h), pinS := fun _ _ h => (by cases h), own := hrd.own, inj := hrd.inj }
  refine hst.2 Old' ⟨w, fun _ => none⟩ K m S a w hS hr0 ht next Q fun r w' m' K' ha => ?_
  have hSm : ∀ i, S i → m' i = m i := fun i hi' => ha.ag i (fun hc => hS i hc.1 hc.2 hi')
  have gk : GK Old K K' := ⟨ha.gk.1, fun k hk ho => ha.gk.2 k hk (hOO k ho)⟩
  -- a block that is there beside
  have side : ∀ i b, look (ovr E H) i = some b → look H' i = some b ∨ (look H i = some b ∧ look Hd i = none) := fun i b hl => by
    rw [look_ovr] at hl
    rw [hH', look_ovr]
    cases he : lkE E i with
    | some ob => rw [he] at hl; exact .inl hl
    | none =>
      rw [he] at hl
      simp only [Option.getD_none] at hl ⊢
      rcases hx i with h | ⟨h, _⟩
      · left; rw [← h]; exact hl
      · exact .inr ⟨hl, h⟩
  have sideOld : ∀ i b, look H i = some b → look Hd i = none → (m i).ph = false → Old' (m i).blk := fun i b hl hd hp =>
    (hO _).2 ⟨((hr.own i b hl).br hp).lt_size, fun j c hj hpj => hr.inj j i c b (hsub j c hj) hl (fun e => by subst e; rw [hd] at hj; cases hj) hpj hp, fun j c hj hpj hq e => ((hr.own i b hl).br hp).nk (e ▸ (hrd.om j c hj hpj hq).2.1)⟩
  refine hn r w' m' K' ha.ag gk ?_ ha.vr ha.kk
  refine { os := ha.rel.os.trans hr.os, tape := ha.rel.tape.trans hr.tape, output := ha.rel.output.trans hr.output, size := Nat.le_trans hr.size ha.rel.size, old := fun k hk => (ha.rel.old k (hOO k hk)).trans (hr.old k hk), olt := fun k hk => ha.rel.olt k (hOO k hk), oown := ?_, om := ?_, kb := ha.rel.kb, inS := ?_,
           pin := fun i l hp => (hSm i (hr.pinS i l hp)).trans (hr.pin i l hp), pinS := fun i l hp => .inl (hr.pinS i l hp), own := ?_, inj := ?_ }
  · intro i b hl
    rcases side i b hl with h | ⟨h, hd⟩
    · exact fun hp ho => ha.rel.oown i b h hp (hOO _ ho)
    · rw [hSm i (hr.inS i b h)]; exact hr.oown i b h
  · intro i b hl
    rcases side i b hl with h | ⟨h, hd⟩
    · exact fun hp hq => ⟨(ha.rel.om i b h hp hq).1, (ha.rel.om i b h hp hq).2.1, fun ho => (ha.rel.om i b h hp hq).2.2 (hOO _ ho)⟩
    · rw [hSm i (hr.inS i b h)]; exact fun hp hq => ⟨(hr.om i b h hp hq).1, ha.gk.1 _ (hr.om i b h hp hq).2.1, (hr.om i b h hp hq).2.2⟩
  · intro i b hl
    rcases side i b hl with h | ⟨h, hd⟩
    · exact ha.rel.inS i b h
    · exact .inl (hr.inS i b h)
  · intro i b hl
    rcases side i b hl with h | ⟨h, hd⟩
    · exact ha.rel.own i b h
    · exact (hr.own i b h).mono2 ha.gk.1 (fun hp hk => ha.gk.2 _ hk (sideOld i b h hd hp)) ha.kk (fun hp _ => ha.rel.old _ (sideOld i b h hd hp)) (fun i hi => .inl hi) hSm (hr.inS i b h)
  · intro i j bi bj hi' hj' hne
    rcases side i bi hi' with h1 | ⟨h1, d1⟩ <;> rcases side j bj hj' with h2 | ⟨h2, d2⟩
    · exact ha.rel.inj i j bi bj h1 h2 hne
    · rw [hSm j (hr.inS j bj h2)]
      exact fun hp hp' e => ha.rel.oown i bi h1 hp (e ▸ sideOld j bj h2 d2 hp')
    · rw [hSm i (hr.inS i bi h1)]
      exact fun hp hp' e => ha.rel.oown j bj h2 hp' (e ▸ sideOld i bi h1 d1 hp)
    · rw [hSm i (hr.inS i bi h1), hSm j (hr.inS j bj h2)]
      exact hr.inj i j bi bj h1 h2 hne

theorem lkE_map : ∀ (U : Hp) (i : Nat), lkE (U.map fun x => (x.1, some x.2)) i = (look U i).map some
  | [], i => rfl
  | (k, b) :: U, i => by
    simp only [List.map_cons, lkE_cons, look_cons]
    split
    · rfl
    · exact lkE_map U i

section
variable {P : Program} {N : Nat} {l : List Oper} {bs ks : List Nat} {T : Tp} {H : Hp} {n : Nat}

theorem chk_at (hc : chkB l bs ks = true) {i : Nat} {o : Oper} (hi : l[i]? = some o) :
    (∀ e ∈ o.after, Region.binds .any e = true → e.on < i) ∧ ∀ j, j < l.length →
      (Nat.testBit (bs.getD i 0) j = true → j < i ∧ (∃ e ∈ o.after, Region.binds .any e = true ∧ (e.on = j ∨ Nat.testBit (bs.getD e.on 0) j = true)) ∧ ∀ k, Nat.testBit (bs.getD j 0) k = true → Nat.testBit (bs.getD i 0) k = true) ∧
      (i ≠ j → ordB bs i j = false → ∀ o', l[j]? = some o' → ∀ d, o'.dst = some d → d ∉ o.looksAt l.toArray ∧ o.dst ≠ some d) ∧
      (i ≠ j → ordB bs i j = false → ks.getD i 0 = 2 → ks.getD j 0 = 0 ∨ ks.getD j 0 = 3) := by
  unfold chkB at hc
  simp only [Bool.and_eq_true, List.all_eq_true] at hc
  obtain ⟨_, h⟩ := hc
  have hlt : i < l.length := (List.getElem?_eq_some_iff.1 hi).1
  have h1 := h i (List.mem_range.2 hlt)
  rw [hi] at h1
  simp only [Bool.and_eq_true, List.all_eq_true] at h1
  obtain ⟨ha, hb⟩ := h1
  refine ⟨fun e he hbn => ?_, fun j hj => ?_⟩
  · have := Array.all_eq_true_iff_forall_mem.1 ha e he
    rw [hbn] at this
    simpa [Nat.blt_eq] using this
  · have hjj := hb j (List.mem_range.2 hj)
    obtain ⟨⟨g1, g2⟩, g3⟩ := hjj
    refine ⟨fun ht => ?_, fun hne ho o' ho' d hd => ?_, fun hne ho h2 => ?_⟩
    · rw [ht] at g1
      simp only [Bool.not_true, Bool.false_or, Bool.and_eq_true, Nat.blt_eq] at g1
      obtain ⟨⟨p1, p2⟩, p3⟩ := g1
      refine ⟨p1, ?_, fun k hk => ?_⟩
      · obtain ⟨e, he, hh⟩ := Array.any_eq_true'.1 p2
        simp only [Bool.and_eq_true, Bool.or_eq_true] at hh
        refine ⟨e, he, hh.1, ?_⟩
        rcases hh.2 with q | q
        · exact .inl (Nat.eq_of_beq_eq_true q)
        · exact .inr q
      · have := Nat.eq_of_beq_eq_true p3
        rw [← this, Nat.testBit_or, hk, Bool.or_true]
    · have hne' : Nat.beq i j = false := by
        cases hb : Nat.beq i j
        · rfl
        · exact absurd (Nat.eq_of_beq_eq_true hb) hne
      rw [hne', ho, ho'] at g2
      simp only [Bool.false_or, hd, Bool.and_eq_true, bne_iff_ne, ne_eq, Bool.not_eq_true'] at g2
      refine ⟨fun hm => ?_, g2.2⟩
      have : (o.looksAt l.toArray).contains d = true := by simpa using hm
      rw [this] at g2
      simp at g2
    · have hne' : Nat.beq i j = false := by
        cases hb : Nat.beq i j
        · rfl
        · exact absurd (Nat.eq_of_beq_eq_true hb) hne
      have h2' : Nat.beq (ks.getD i 0) 2 = true := by rw [h2]; rfl
      rw [hne', ho, h2'] at g3
      simpa using g3

/-- all that was asked to come before has come -/
def ClosedL (l : List Oper) (L : Nat → Bool) : Prop := ∀ (i : Nat) (o : Oper), l[i]? = some o → L i = true → ∀ e ∈ o.after, Region.binds .any e = true → L e.on = true
theorem bef_in (hc : chkB l bs ks = true) {L : Nat → Bool} (hL : ClosedL l L) : ∀ (i : Nat) (o : Oper), l[i]? = some o → (∀ e ∈ o.after, Region.binds .any e = true → L e.on = true) → ∀ j, j < l.length → Nat.testBit (bs.getD i 0) j = true → L j = true := by
  intro i
  induction i using Nat.strongRecOn with
  | _ i ih =>
    intro o hi he j hj ht
    obtain ⟨h0, h1⟩ := chk_at hc hi
    obtain ⟨⟨_, ⟨e, he', hbn, hor⟩, _⟩, _⟩ := (fun h => ⟨(h1 j hj).1 h, trivial⟩ : Nat.testBit (bs.getD i 0) j = true → _ ∧ True) ht
    have hLe := he e he' hbn
    rcases hor with rfl | hor
    · exact hLe
    · have hlt := h0 e he' hbn
      have hlen : e.on < l.length := by have := (List.getElem?_eq_some_iff.1 hi).1; omega
      exact ih e.on hlt _ (List.getElem?_eq_getElem hlen) (hL e.on _ (List.getElem?_eq_getElem hlen) hLe) j hj hor

end
end Go.Proofs.Ytglfcaioapdiaaa.Aw

-- A region that draws its order: the rule.
namespace Go.Proofs.Ytglfcaioapdiaaa.Aw
open Go Go.RowKit

section
variable {P : Program} {N : Nat} {l : List Oper} {bs ks : List Nat} {T : Tp} {H : Hp} {n n' : Nat} {ps : List PO}

structure Plan (P : Program) (N : Nat) (l : List Oper) (bs ks : List Nat) (T : Tp) (H : Hp) (n n' : Nat) (ps : List PO) : Prop where
  chk : chkB l bs ks = true
  len : ps.length = l.length
  rng : ∀ (j : Nat) (p : PO), ps[j]? = some p → n ≤ p.lo ∧ p.lo ≤ p.hi ∧ p.hi ≤ n'
  chain : ∀ (i j : Nat) (p q : PO), ps[i]? = some p → ps[j]? = some q → i < j → p.hi ≤ q.lo
  cov : ∀ x, n ≤ x → x < n' → ∃ (j : Nat) (p : PO), ps[j]? = some p ∧ p.lo ≤ x ∧ x < p.hi
  fact : ∀ (j : Nat) (o : Oper), l[j]? = some o → ∃ p, ps[j]? = some p ∧
    FactT P N l.toArray o (resT (o.looksAt l.toArray) (selT (fun _ => true) 0 (ps.take j) T)) (selH (depM bs ks j) 0 (ps.take j) H) (ks.getD j 0) (SameAt l.toArray ks H j) p
  keepR : KeepR l.toArray bs ks H ps
  old : ∀ i b, look H i = some b → i < n

def SL (n : Nat) (ps : List PO) (L : Nat → Bool) : Nat → Prop := fun x => x < n ∨ ∃ (j : Nat) (p : PO), ps[j]? = some p ∧ L j = true ∧ p.lo ≤ x ∧ x < p.hi

theorem Plan.disj (h : Plan P N l bs ks T H n n' ps) {i j : Nat} {p q : PO} {x : Nat} (hi : ps[i]? = some p) (hj : ps[j]? = some q) (h1 : p.lo ≤ x) (h2 : x < p.hi) (h3 : q.lo ≤ x) (h4 : x < q.hi) : i = j := by
  rcases Nat.lt_trichotomy i j with hlt | he | hgt
  · have := h.chain i j p q hi hj hlt; omega
  · exact he
  · have := h.chain j i q p hj hi hgt; omega

/-- what an operation's effect speaks of -/
theorem Plan.ment (h : Plan P N l bs ks T H n n' ps) {j : Nat} {p : PO} (hj : ps[j]? = some p) {id : Nat} (hm : lkE p.E id ≠ none) :
    ((ks.getD j 0 = 1 ∨ ks.getD j 0 = 3) ∧ p.lo ≤ id ∧ id < p.hi) ∨ (ks.getD j 0 = 2 ∧ ((look (selH (depM bs ks j) 0 (ps.take j) H) id).isSome = true ∨ (p.lo ≤ id ∧ id < p.hi))) := by
  have hlt : j < l.length := by rw [← h.len]; exact (List.getElem?_eq_some_iff.1 hj).1
  obtain ⟨q, hq, _, _, hf⟩ := h.fact j _ (List.getElem?_eq_getElem hlt)
  rw [hj] at hq
  simp only [Option.some.injEq] at hq
  subst hq
  rcases hf with ⟨_, _, _, _, _, _, _, _, _, _, he, _⟩ | ⟨_, ⟨_, he, _⟩ | ⟨hk, U, he, hu, _⟩ | ⟨hk, U, he, hu, _⟩ | ⟨hk, H', _, hin, _⟩⟩
  · rw [he] at hm; exact absurd rfl hm
  · rw [he] at hm; exact absurd rfl hm
  · rw [he, lkE_map] at hm
    cases hl : look U id with
    | none => rw [hl] at hm; exact absurd rfl hm
    | some b => exact .inl ⟨.inl hk, hu id b hl⟩
  · rw [he, lkE_map] at hm
    cases hl : look U id with
    | none => rw [hl] at hm; exact absurd rfl hm
    | some b => exact .inl ⟨.inr hk, hu id b hl⟩
  · cases hl : lkE p.E id with
    | none => exact absurd hl hm
    | some ob => exact .inr ⟨hk, hin id ob hl⟩

theorem depM_iff {i j : Nat} : depM bs ks i j = true ↔ Nat.testBit (bs.getD i 0) j = true ∧ 0 < ks.getD j 0 ∧ j < i := by
  simp [depM, Nat.blt_eq, and_assoc]

theorem Plan.trans (h : Plan P N l bs ks T H n n' ps) {i j k : Nat} (hi : i < l.length) (h1 : depM bs ks i j = true) (h2 : depM bs ks j k = true) : depM bs ks i k = true := by
  rw [depM_iff] at *
  obtain ⟨_, hc⟩ := chk_at h.chk (List.getElem?_eq_getElem hi)
  exact ⟨((hc j (by omega)).1 h1.1).2.2 k h2.1, h2.2.1, by omega⟩

/-- a new block is there only behind the operation that made it -/
theorem Plan.dom (h : Plan P N l bs ks T H n n' ps) {j : Nat} {p : PO} {id : Nat} (hj : ps[j]? = some p) (h1 : p.lo ≤ id) (h2 : id < p.hi) :
    ∀ i, i < l.length → look (selH (depM bs ks i) 0 (ps.take i) H) id ≠ none → depM bs ks i j = true := by
  intro i
  induction i using Nat.strongRecOn with
  | _ i ih =>
    intro hi hne
    cases hl : look (selH (depM bs ks i) 0 (ps.take i) H) id with
    | none => exact absurd hl hne
    | some b =>
      rcases selH_from _ _ _ hl with h0 | ⟨j', q, hq, hd, hm⟩
      · have := h.old id b h0
        have := h.rng j p hj
        omega
      · rw [Nat.zero_add] at hd
        have hlt : j' < i := (depM_iff.1 hd).2.2
        have hq' : ps[j']? = some q := by rw [List.getElem?_take, if_pos hlt] at hq; exact hq
        rcases h.ment hq' (id := id) (by rw [hm]; simp) with ⟨_, g1, g2⟩ | ⟨_, hin⟩
        · rw [h.disj hj hq' h1 h2 g1 g2]; exact hd
        · rcases hin with hin | ⟨g1, g2⟩
          · exact h.trans hi hd (ih j' hlt (by omega) (fun hn => by rw [hn] at hin; cases hin))
          · rw [h.disj hj hq' h1 h2 g1 g2]; exact hd

variable {L : Nat → Bool}
theorem Plan.noAfter (h : Plan P N l bs ks T H n n' ps) (hL : ClosedL l L) {i j : Nat} (hi : L i = false) (hj : L j = true) (hjl : j < l.length) (hil : i < l.length) : Nat.testBit (bs.getD j 0) i = false := by
  cases ht : Nat.testBit (bs.getD j 0) i with
  | false => rfl
  | true =>
    have := bef_in h.chk hL j _ (List.getElem?_eq_getElem hjl) (hL j _ (List.getElem?_eq_getElem hjl) hj) i hil ht
    rw [hi] at this
    cases this

/-- what an operation may read is there, whatever has come up -/
theorem Plan.incl (h : Plan P N l bs ks T H n n' ps) (hL : ClosedL l L) {i : Nat} {o : Oper} (hi : l[i]? = some o) (hLi : L i = false) (hre : ∀ e ∈ o.after, Region.binds .any e = true → L e.on = true) (hk : ks.getD i 0 = 1 ∨ ks.getD i 0 = 2)
    {id : Nat} {b : Blk} (hl : look (selH (depM bs ks i) 0 (ps.take i) H) id = some b) : look (selH L 0 ps H) id = some b := by
  have hil : i < l.length := (List.getElem?_eq_some_iff.1 hi).1
  rw [← selH_take ps H (fun j hj => (depM_iff.1 hj).2.2)] at hl
  rw [← hl]
  refine (selH_congr ps 0 H H rfl fun j q hq hm => ?_).symm
  rw [Nat.zero_add]
  have hjl : j < l.length := by rw [← h.len]; exact (List.getElem?_eq_some_iff.1 hq).1
  have hkj : 0 < ks.getD j 0 := by rcases h.ment hq hm with ⟨e, _⟩ | ⟨e, _⟩ <;> omega
  cases hD : depM bs ks i j with
  | true => exact (bef_in h.chk hL i o hi hre j hjl (depM_iff.1 hD).1).symm
  | false =>
    cases hLj : L j with
    | false => rfl
    | true =>
      exfalso
      have hij : i ≠ j := fun e => by rw [e, hLj] at hLi; cases hLi
      have hna := h.noAfter hL hLi hLj hjl hil
      have hnb : Nat.testBit (bs.getD i 0) j = false := by
        cases ht : Nat.testBit (bs.getD i 0) j with
        | false => rfl
        | true =>
          obtain ⟨_, hc⟩ := chk_at h.chk hi
          have := depM_iff.2 ⟨ht, hkj, ((hc j hjl).1 ht).1⟩
          rw [hD] at this
          cases this
      have hord : ordB bs j i = false := by simp only [ordB, hna, hnb, Bool.or_false]
      rcases h.ment hq hm with ⟨_, g1, g2⟩ | ⟨hk2, _⟩
      · have := h.dom hq g1 g2 i hil (by rw [← selH_take ps H (fun j hj => (depM_iff.1 hj).2.2), hl]; simp)
        rw [hD] at this
        cases this
      · obtain ⟨_, hc⟩ := chk_at h.chk (List.getElem?_eq_getElem hjl)
        have := (hc i hil).2.2 (fun e => hij e.symm) hord (by omega)
        omega

/-- behind an operation -/
theorem Plan.next (h : Plan P N l bs ks T H n n' ps) (hL : ClosedL l L) {i : Nat} {o : Oper} (hi : l[i]? = some o) (hLi : L i = false) {p : PO} (hp : ps[i]? = some p) {L' : Nat → Bool} (h1 : L' i = true) (h2 : ∀ j, j ≠ i → L' j = L j) (id : Nat) :
    look (selH L' 0 ps H) id = (lkE p.E id).getD (look (selH L 0 ps H) id) := by
  have hil : i < l.length := (List.getElem?_eq_some_iff.1 hi).1
  cases he : lkE p.E id with
  | none =>
    rw [Option.getD_none]
    refine selH_congr ps 0 H H rfl fun j q hq hm => ?_
    rw [Nat.zero_add]
    by_cases hj : j = i
    · subst hj
      rw [hp] at hq
      simp only [Option.some.injEq] at hq
      subst hq
      exact absurd he hm
    · exact h2 j hj
  | some ob =>
    rw [← he]
    refine selH_ins ps 0 H H rfl (Nat.zero_le _) (by simpa using hp) hLi h1 h2 fun j q hq hij hLj => ?_
    rw [Nat.zero_add] at hij hLj
    have hjl : j < l.length := by rw [← h.len]; exact (List.getElem?_eq_some_iff.1 hq).1
    cases hm : lkE q.E id with
    | none => rfl
    | some oq =>
      exfalso
      have hna := h.noAfter hL hLi hLj hjl hil
      have hnb : Nat.testBit (bs.getD i 0) j = false := by
        cases ht : Nat.testBit (bs.getD i 0) j with
        | false => rfl
        | true =>
          obtain ⟨_, hc⟩ := chk_at h.chk hi
          have := ((hc j hjl).1 ht).1
          omega
      have hord : ordB bs i j = false := by simp only [ordB, hna, hnb, Bool.or_false]
      have hkj : 0 < ks.getD j 0 := by rcases h.ment hq (id := id) (by rw [hm]; simp) with ⟨e, _⟩ | ⟨e, _⟩ <;> omega
      rcases h.ment hp (id := id) (by rw [he]; simp) with ⟨_, g1, g2⟩ | hk2
      · rcases h.ment hq (id := id) (by rw [hm]; simp) with ⟨_, q1, q2⟩ | ⟨_, hin⟩
        · have := h.disj hp hq g1 g2 q1 q2; omega
        · rcases hin with hin | ⟨q1, q2⟩
          · have := h.dom hp g1 g2 j hjl (fun hn => by rw [hn] at hin; cases hin)
            rw [(depM_iff.1 this).1] at hna
            cases hna
          · have := h.disj hp hq g1 g2 q1 q2; omega
      · obtain ⟨_, hc⟩ := chk_at h.chk hi
        have hj3 : ks.getD j 0 = 3 := by have := (hc j hjl).2.2 (by omega) hord hk2.1; omega
        rcases h.ment hq (id := id) (by rw [hm]; simp) with ⟨_, q1, q2⟩ | ⟨e2, _⟩
        · rcases hk2.2 with hin | ⟨g1, g2⟩
          · have := h.dom hq q1 q2 i hil (fun hn => by rw [hn] at hin; cases hin)
            rw [(depM_iff.1 this).1] at hnb
            cases hnb
          · have := h.disj hp hq g1 g2 q1 q2; omega
        · omega

/-- an operation that writes meets all that has come up -/
theorem Plan.incl2 (h : Plan P N l bs ks T H n n' ps) (hL : ClosedL l L) {i : Nat} {o : Oper} (hi : l[i]? = some o) (hLi : L i = false) (hre : ∀ e ∈ o.after, Region.binds .any e = true → L e.on = true) (hk : ks.getD i 0 = 2) {p : PO} (hp : ps[i]? = some p) (id : Nat) :
    look (selH L 0 ps H) id = look (selH (depM bs ks i) 0 (ps.take i) H) id ∨ (look (selH (depM bs ks i) 0 (ps.take i) H) id = none ∧ lkE p.E id = none) := by
  have hil : i < l.length := (List.getElem?_eq_some_iff.1 hi).1
  by_cases hex : ∃ j q, ps[j]? = some q ∧ L j = true ∧ depM bs ks i j = false ∧ ks.getD j 0 = 3 ∧ q.lo ≤ id ∧ id < q.hi
  · obtain ⟨j, q, hq, hLj, hD, hk3, q1, q2⟩ := hex
    have hd0 : look (selH (depM bs ks i) 0 (ps.take i) H) id = none := by
      cases hl : look (selH (depM bs ks i) 0 (ps.take i) H) id with
      | none => rfl
      | some b =>
        have := h.dom hq q1 q2 i hil (by rw [hl]; simp)
        rw [hD] at this
        cases this
    refine .inr ⟨hd0, ?_⟩
    cases hm : lkE p.E id with
    | none => rfl
    | some ob =>
      exfalso
      have hij : j ≠ i := fun e => by subst e; rw [hLi] at hLj; cases hLj
      rcases h.ment hp (id := id) (by rw [hm]; simp) with ⟨_, g1, g2⟩ | ⟨_, hin | ⟨g1, g2⟩⟩
      · exact hij (h.disj hq hp q1 q2 g1 g2)
      · rw [hd0] at hin; cases hin
      · exact hij (h.disj hq hp q1 q2 g1 g2)
  left
  rw [← selH_take ps H (fun j hj => (depM_iff.1 hj).2.2)]
  refine selH_congr ps 0 H H rfl fun j q hq hm => ?_
  rw [Nat.zero_add]
  have hjl : j < l.length := by rw [← h.len]; exact (List.getElem?_eq_some_iff.1 hq).1
  have hkj : 0 < ks.getD j 0 := by rcases h.ment hq hm with ⟨e, _⟩ | ⟨e, _⟩ <;> omega
  obtain ⟨_, hc⟩ := chk_at h.chk hi
  cases hD : depM bs ks i j with
  | true => exact bef_in h.chk hL i o hi hre j hjl (depM_iff.1 hD).1
  | false =>
    cases hLj : L j with
    | false => rfl
    | true =>
      exfalso
      have hij : i ≠ j := fun e => by rw [e, hLj] at hLi; cases hLi
      have hna := h.noAfter hL hLi hLj hjl hil
      have hnb : Nat.testBit (bs.getD i 0) j = false := by
        cases ht : Nat.testBit (bs.getD i 0) j with
        | false => rfl
        | true =>
          have := depM_iff.2 ⟨ht, hkj, ((hc j hjl).1 ht).1⟩
          rw [hD] at this
          cases this
      have hord : ordB bs i j = false := by simp only [ordB, hna, hnb, Bool.or_false]
      have h3 : ks.getD j 0 = 3 := by have := (hc j hjl).2.2 hij hord hk; omega
      rcases h.ment hq hm with ⟨_, g1, g2⟩ | ⟨hk2, _⟩
      · exact hex ⟨j, q, hq, hLj, hD, h3, g1, g2⟩
      · omega

/-- a temporary that an operation looks at reads as in the text's order -/
theorem Plan.tmp (h : Plan P N l bs ks T H n n' ps) (hL : ClosedL l L) {i : Nat} {o : Oper} (hi : l[i]? = some o) (hLi : L i = false) (hre : ∀ e ∈ o.after, Region.binds .any e = true → L e.on = true) {t : Nat} (k : Nat) (hk : k = i ∨ k = i + 1) {L' : Nat → Bool} (h1 : L' i = decide (i < k)) (h2 : ∀ j, j ≠ i → L' j = L j)
    (ht : (k = i ∧ t ∈ o.looksAt l.toArray) ∨ (k = i + 1 ∧ o.dst = some t)) : look (selT L' 0 ps T) t = look (selT (fun _ => true) 0 (ps.take k) T) t := by
  have hil : i < l.length := (List.getElem?_eq_some_iff.1 hi).1
  refine selT_take ps T t fun j q hq hd => ?_
  have hjl : j < l.length := by rw [← h.len]; exact (List.getElem?_eq_some_iff.1 hq).1
  by_cases hj : j = i
  · subst hj; exact h1
  · rw [h2 j hj]
    obtain ⟨_, hc⟩ := chk_at h.chk hi
    have hdo : (l[j]'hjl).dst = some t := by
      obtain ⟨q', hq', e, _⟩ := h.fact j _ (List.getElem?_eq_getElem hjl)
      rw [hq] at hq'
      simp only [Option.some.injEq] at hq'
      subst hq'
      rw [← e]; exact hd
    have hord : ordB bs i j = true := by
      cases ho : ordB bs i j with
      | true => rfl
      | false =>
        have := (hc j hjl).2.1 (fun e => hj e.symm) ho _ (List.getElem?_eq_getElem hjl) t hdo
        rcases ht with ⟨_, hm⟩ | ⟨_, hdst⟩
        · exact absurd hm this.1
        · exact absurd hdst this.2
    simp only [ordB, Bool.or_eq_true] at hord
    rcases hord with hb | hb
    · have hlt := ((hc j hjl).1 hb).1
      rw [bef_in h.chk hL i o hi hre j hjl hb]
      have : j < k := by omega
      simp [this]
    · obtain ⟨_, hc'⟩ := chk_at h.chk (List.getElem?_eq_getElem hjl)
      have hlt := ((hc' i hil).1 hb).1
      have : ¬ j < k := by omega
      simp only [this, decide_false]
      cases hLj : L j with
      | false => rfl
      | true => rw [h.noAfter hL hLi hLj hjl hil] at hb; cases hb
end
end Go.Proofs.Ytglfcaioapdiaaa.Aw

-- A region that draws its order: the rule, whole.
namespace Go.Proofs.Ytglfcaioapdiaaa.Aw
open Go Go.RowKit

section
variable {P : Program} {N : Nat} {l : List Oper} {bs ks : List Nat} {T : Tp} {H : Hp} {n n' : Nat} {ps : List PO} {Old : Nat → Prop} {wi : WI} {K : Nat → Prop}

def InvD (N : Nat) (T : Tp) (H : Hp) (n : Nat) (ps : List PO) (Old : Nat → Prop) (wi : WI) (K : Nat → Prop) (L : Nat → Bool) (a : Act) (w : World) : Prop :=
  ∃ m K', GK Old K K' ∧ Rel Old wi K' m (SL n ps L) (selH L 0 ps H) w ∧ TRel K' w m (SL n ps L) N (selT L 0 ps T) a

/-- one operation, whenever it comes up -/
theorem Plan.op (h : Plan P N l bs ks T H n n' ps) {L L' : Nat → Bool} (hL : ClosedL l L) {i : Nat} {o : Oper} (hi : l[i]? = some o) (hLi : L i = false) (hre : ∀ e ∈ o.after, Region.binds .any e = true → L e.on = true)
    (h1 : L' i = true) (h2 : ∀ j, j ≠ i → L' j = L j) {a : Act} {w : World} (hI : InvD N T H n ps Old wi K L a w) (Q : Exit → Act → World → Prop) (next : Act → World → Prop)
    (hn : ∀ a' w', InvD N T H n ps Old wi K L' a' w' → next a' w') : wpOp P l.toArray Q i next a w := by
  have hil : i < l.length := (List.getElem?_eq_some_iff.1 hi).1
  obtain ⟨p, hp, hdst, hdok, hf⟩ := h.fact i o hi
  obtain ⟨m, K1, g1, hr, ht⟩ := hI
  have hrng := h.rng i p hp
  -- the temporaries looked at
  have htI : TRel K1 w m (SL n ps L) N (resT (o.looksAt l.toArray) (selT (fun _ => true) 0 (ps.take i) T)) a := by
    refine ⟨ht.dn, ht.sz, fun t v hl => ?_⟩
    obtain ⟨hm, hlt⟩ := look_resT hl
    refine ht.tm t v ?_
    rw [h.tmp hL hi hLi hre i (.inl rfl) (L' := L) (by simp [hLi]) (fun _ _ => rfl) (.inl ⟨rfl, hm⟩)]
    exact hlt
  have hfresh : ∀ x, p.lo ≤ x → x < p.hi → ¬ SL n ps L x := by
    rintro x hx1 hx2 (hx | ⟨j, q, hq, hLj, q1, q2⟩)
    · omega
    · have := h.disj hp hq hx1 hx2 q1 q2
      subst this
      rw [hLi] at hLj
      cases hLj
  have hS : SL n ps L' = addS (SL n ps L) p.lo p.hi := by
    funext x
    refine propext ⟨?_, ?_⟩
    · rintro (hx | ⟨j, q, hq, hLj, q1, q2⟩)
      · exact .inl (.inl hx)
      · by_cases hj : j = i
        · subst hj
          rw [hp] at hq
          simp only [Option.some.injEq] at hq
          subst hq
          exact .inr ⟨q1, q2⟩
        · rw [h2 j hj] at hLj
          exact .inl (.inr ⟨j, q, hq, hLj, q1, q2⟩)
    · rintro ((hx | ⟨j, q, hq, hLj, q1, q2⟩) | hx)
      · exact .inl hx
      · refine .inr ⟨j, q, hq, ?_, q1, q2⟩
        by_cases hj : j = i
        · subst hj; exact h1
        · rw [h2 j hj]; exact hLj
      · exact .inr ⟨i, p, hp, h1, hx.1, hx.2⟩
  have hnext := h.next hL hi hLi hp h1 h2
  -- the temporaries behind it
  have hTn : ∀ t v, look (selT L' 0 ps T) t = some v → (o.dst = some t ∧ v = p.v) ∨ (o.dst ≠ some t ∧ look (selT L 0 ps T) t = some v) := by
    intro t v hl
    by_cases hd : o.dst = some t
    · left
      refine ⟨hd, ?_⟩
      rw [h.tmp hL hi hLi hre (i + 1) (.inr rfl) (L' := L') (by simp [h1]) h2 (.inr ⟨rfl, hd⟩)] at hl
      have e : ps.take (i + 1) = ps.take i ++ [p] := by rw [List.take_add_one, hp]; rfl
      rw [e, selT_app] at hl
      simp only [selT, look_put] at hl
      rw [if_pos (by rw [hdst]; exact hd)] at hl
      simpa using hl.symm
    · right
      refine ⟨hd, ?_⟩
      rw [← hl]
      refine selT_congr ps 0 T T rfl fun j q hq hqd => ?_
      rw [Nat.zero_add]
      by_cases hj : j = i
      · subst hj
        rw [hp] at hq
        simp only [Option.some.injEq] at hq
        subst hq
        rw [hdst] at hqd
        exact absurd hqd hd
      · exact (h2 j hj).symm
  have hTput : ∀ (m' : Nat → Loc) (w' : World) (r : Value) (K2 : Nat → Prop), (∀ k, K1 k → K2 k) → (∀ k, K1 k → w'.heap[k]? = w.heap[k]?) → (∀ x, SL n ps L x → m' x = m x) → VR K2 w' m' (SL n ps L') p.v r → TRel K2 w' m' (SL n ps L') N (selT L' 0 ps T) (a.put o.dst r) := by
    intro m' w' r K2 hKK hk hm hv
    have hmono := ht.mono hKK hk (S' := SL n ps L') (fun x hx => by rw [hS]; exact .inl hx) hm
    have hput := hmono.put hv hdok
    refine ⟨hput.dn, hput.sz, fun t v hl => hput.tm t v ?_⟩
    rw [look_put]
    rcases hTn t v hl with ⟨hd, rfl⟩ | ⟨hd, hl'⟩
    · rw [if_pos hd]
    · rw [if_neg hd]; exact hl'
  unfold wpOp
  have hio : l.toArray[i]? = some o := by simpa using hi
  rw [hio]
  dsimp only
  rcases hf with ⟨j, b, t, y, hg, hj, htn, hl, hb, hv, hE, hlh⟩ | ⟨hwant, hk⟩
  · -- not wanted
    have hy := yielded_no htI hj hl hb
    rw [if_neg (by rw [Region.wanted, hg]; simp only [hy]; decide)]
    refine hn _ _ ⟨m, K1, g1, ?_, ?_⟩
    · have hSe : SL n ps L' = SL n ps L := by rw [hS, hlh]; funext x; exact propext ⟨fun hx => hx.elim id (fun hx => by omega), .inl⟩
      rw [hSe]
      refine hr.sub fun id b hb => ?_
      rw [hnext id, hE] at hb
      exact hb
    · refine hTput m w undef K1 (fun _ h => h) (fun _ _ => rfl) (fun _ _ => rfl) ?_
      rw [hv]
      exact .v _ _
  · have hwt : Region.wanted o (yielded l.toArray a.tmps) = true := by
      rcases hwant with hg | ⟨j, b, t, hg, hj, htn, hl⟩
      · simp [Region.wanted, hg]
      · have hy := yielded_of htI hj hl htn
        simp [Region.wanted, hg, hy]
    rw [if_pos hwt]
    refine .inl ?_
    rcases hk with ⟨hk0, hE, hlh, hst⟩ | ⟨hk1, U, hE, hU, hst⟩ | ⟨hk3, U, hE, hU, hst⟩ | ⟨hk2, H', hH', hin, hst⟩
    · -- the heap does not matter
      have hSe : SL n ps L' = SL n ps L := by rw [hS, hlh]; funext x; exact propext ⟨fun hx => hx.elim id (fun hx => by omega), .inl⟩
      have hC : SameAt l.toArray ks H i (selH L 0 ps H) := fun id hid => h.keepR L i id hid fun j hj htb => by
        cases hLj : L j with
        | false => rfl
        | true =>
          have hjl : j < l.length := by simpa using hj
          have := bef_in h.chk hL j _ (List.getElem?_eq_getElem hjl) (hL j _ (List.getElem?_eq_getElem hjl) hLj) i hil htb
          rw [hLi] at this
          cases this
      refine (hst (selH L 0 ps H) 0 hC).2 Old wi K1 m (SL n ps L) a w (fun x h1 h2 => by omega) hr htI next Q fun r w' m' K2 ha => ?_
      have e0 : addS (SL n ps L) 0 0 = SL n ps L := by funext x; exact propext ⟨fun hx => hx.elim id (fun hx => by omega), .inl⟩
      have hrel := ha.rel
      have hvr := ha.vr
      rw [e0] at hrel hvr
      refine hn _ _ ⟨m', K2, g1.trans ha.gk, ?_, hTput m' w' r K2 ha.gk.1 ha.kk (fun x _ => ha.ag x (by omega)) (by rw [hSe]; exact hvr)⟩
      rw [hSe]
      refine hrel.sub fun id b hb => ?_
      rw [hnext id, hE] at hb
      exact hb
    · -- it reads, and makes new blocks
      have hsub : Rel Old wi K1 m (SL n ps L) (selH (depM bs ks i) 0 (ps.take i) H) w := hr.sub fun id b hb => h.incl hL hi hLi hre (by omega) hb
      refine hst.2 Old wi K1 m (SL n ps L) a w hfresh hsub htI next Q fun r w' m' K2 ha => ?_
      have hfr := hr.frame hfresh hU ha
      refine hn _ _ ⟨m', K2, g1.trans ha.gk, ?_, hTput m' w' r K2 ha.gk.1 ha.kk (fun x hx => ha.ag x (fun hc => hfresh x hc.1 hc.2 hx)) (by rw [hS]; exact ha.vr)⟩
      rw [hS]
      refine hfr.sub fun id b hb => ?_
      rw [hnext id, hE, lkE_map] at hb
      rw [look_append]
      cases hu : look U id with
      | none => rw [hu] at hb; exact hb
      | some b' => rw [hu] at hb; exact hb
    · -- it makes new blocks, whatever is there
      have hsub : Rel Old wi K1 m (SL n ps L) [] w := hr.sub fun id b hb => by simp [look_nil] at hb
      refine hst.2 Old wi K1 m (SL n ps L) a w hfresh hsub htI next Q fun r w' m' K2 ha => ?_
      have hfr := hr.frame hfresh hU (Hd := []) (by rw [List.append_nil]; exact ha)
      refine hn _ _ ⟨m', K2, g1.trans ha.gk, ?_, hTput m' w' r K2 ha.gk.1 ha.kk (fun x hx => ha.ag x (fun hc => hfresh x hc.1 hc.2 hx)) (by rw [hS]; exact ha.vr)⟩
      rw [hS]
      refine hfr.sub fun id b hb => ?_
      rw [hnext id, hE, lkE_map] at hb
      rw [look_append]
      cases hu : look U id with
      | none => rw [hu] at hb; exact hb
      | some b' => rw [hu] at hb; exact hb
    · -- it writes
      refine hst.framed hH' hr (fun id b hb => h.incl hL hi hLi hre (by omega) hb) hfresh htI (fun id => h.incl2 hL hi hLi hre hk2 hp id) next Q fun r w' m' K2 hag hgk hrel hvr hkk => ?_
      refine hn _ _ ⟨m', K2, g1.trans hgk, ?_, hTput m' w' r K2 hgk.1 hkk (fun x hx => hag x (fun hc => hfresh x hc.1 hc.2 hx)) (by rw [hS]; exact hvr)⟩
      rw [hS]
      refine hrel.sub fun id b hb => ?_
      rw [hnext id] at hb
      rw [look_ovr]
      exact hb

theorem readyMem {i : Nat} {listed : Array Bool} (hi : i ∈ Region.ready .any l.toArray listed) : listed.getD i true = false ∧ ∃ o, l[i]? = some o ∧ ∀ e ∈ o.after, Region.binds .any e = true → listed.getD e.on true = true := by
  rw [mem_ready] at hi
  obtain ⟨h0, o, ho, he⟩ := hi
  refine ⟨h0, o, by simpa using ho, fun e hm hb => ?_⟩
  have := he e hm hb
  rcases Nat.lt_or_ge e.on listed.size with hlt | hge
  · simpa [Array.getD, hlt] using this
  · simp [Array.getD, Nat.not_lt.2 hge]

theorem Plan.any (h : Plan P N l bs ks T H n n' ps) (Q : Exit → Act → World → Prop) (hq : ∀ a w, InvD N T H n ps Old wi K (fun _ => true) a w → Q .normal a w) :
    ∀ (fuel : Nat) (listed : Array Bool) (a : Act) (w : World), listed.size = l.length → ClosedL l (fun j => listed.getD j true) → ((List.range l.length).filter fun j => !listed.getD j true).length = fuel → InvD N T H n ps Old wi K (fun j => listed.getD j true) a w →
      wpAny P .any l.toArray Q fuel listed a w := by
  intro fuel
  have done : ∀ (listed : Array Bool) (a : Act) (w : World), listed.size = l.length → Region.ready .any l.toArray listed = [] → InvD N T H n ps Old wi K (fun j => listed.getD j true) a w → Q .normal a w := by
    intro listed a w hsz hre hI
    have all : ∀ j, listed.getD j true = true := by
      intro j
      induction j using Nat.strongRecOn with
      | _ j ih =>
        cases hj : listed.getD j true with
        | true => rfl
        | false =>
          exfalso
          have hlt : j < listed.size := by
            rcases Nat.lt_or_ge j listed.size with hlt | hge
            · exact hlt
            · simp [Array.getD, Nat.not_lt.2 hge] at hj
          have hjl : j < l.length := by omega
          have : j ∈ Region.ready .any l.toArray listed := by
            rw [mem_ready]
            refine ⟨hj, l[j], by simp [hjl], fun e he hb => ?_⟩
            have hon := (chk_at h.chk (List.getElem?_eq_getElem hjl)).1 e he hb
            have h1 := ih e.on hon
            have hon' : e.on < listed.size := by omega
            simpa [Array.getD, hon'] using h1
          rw [hre] at this
          cases this
    refine hq a w ?_
    have : (fun j => listed.getD j true) = fun _ => true := funext all
    rwa [this] at hI
  induction fuel with
  | zero =>
    intro listed a w hsz hcl hf hI
    have hre : Region.ready .any l.toArray listed = [] := by
      cases hr : Region.ready .any l.toArray listed with
      | nil => rfl
      | cons i rs =>
        have hi : i ∈ Region.ready .any l.toArray listed := by rw [hr]; exact List.mem_cons_self
        obtain ⟨h0, o, ho, _⟩ := readyMem hi
        have hil : i < l.length := (List.getElem?_eq_some_iff.1 ho).1
        have : i ∈ (List.range l.length).filter fun j => !listed.getD j true := by simp only [List.mem_filter, List.mem_range]; exact ⟨hil, by rw [h0]; rfl⟩
        rw [List.length_eq_zero_iff.1 hf] at this
        cases this
    exact ⟨hre, done listed a w hsz hre hI⟩
  | succ fuel ih =>
    intro listed a w hsz hcl hf hI
    refine ⟨fun hre => done listed a w hsz hre hI, fun i hi => ?_⟩
    obtain ⟨h0, o, ho, hre⟩ := readyMem hi
    have hil : i < l.length := (List.getElem?_eq_some_iff.1 ho).1
    have e1 : (listed.setIfInBounds i true).getD i true = true := by simp [Array.getD, hsz, hil]
    have e2 : ∀ j, j ≠ i → (listed.setIfInBounds i true).getD j true = listed.getD j true := fun j hj => getD_set_ne true (fun e => hj e.symm)
    refine h.op hcl ho h0 hre (L' := fun j => (listed.setIfInBounds i true).getD j true) e1 e2 hI Q _ fun a' w' hI' => ?_
    refine ih _ a' w' (by simp [hsz]) ?_ ?_ hI'
    · intro j o' hj hLj e he hb
      have mono : ∀ x, listed.getD x true = true → (listed.setIfInBounds i true).getD x true = true := fun x hx => by
        by_cases hxi : x = i
        · subst hxi; exact e1
        · rw [e2 x hxi]; exact hx
      by_cases hji : j = i
      · subst hji
        rw [ho] at hj
        simp only [Option.some.injEq] at hj
        subst hj
        exact mono _ (hre e he hb)
      · refine mono _ (hcl j o' hj ?_ e he hb)
        have : (listed.setIfInBounds i true).getD j true = true := hLj
        rw [e2 j hji] at this
        exact this
    · have hnd : (List.range l.length).Nodup := List.nodup_range
      have key : ((List.range l.length).filter fun j => !(listed.setIfInBounds i true).getD j true) = ((List.range l.length).filter fun j => !listed.getD j true).filter (fun j => !(j == i)) := by
        rw [List.filter_filter]
        refine List.filter_congr fun j _ => ?_
        by_cases hj : j = i
        · subst hj; simp [e1]
        · simp [e2 j hj, hj]
      rw [key]
      have hm : i ∈ (List.range l.length).filter fun j => !listed.getD j true := by simp only [List.mem_filter, List.mem_range]; exact ⟨hil, by rw [h0]; rfl⟩
      have hnd2 : ((List.range l.length).filter fun j => !listed.getD j true).Nodup := hnd.filter _
      have := hnd2.erase_eq_filter i
      have hlen := List.length_erase_of_mem hm
      rw [this] at hlen
      have heq : ((List.range l.length).filter fun j => !listed.getD j true).filter (fun j => !(j == i)) = ((List.range l.length).filter fun j => !listed.getD j true).filter (fun x => x != i) := rfl
      rw [heq, hlen, hf]
      rfl

theorem aw_draw {id g : Nat} {Q : Exit → Tp → Hp → Nat → Prop} (bs ks : List Nat) (hm : P.follows .mixedOrders = true) (hc : chkB l bs ks = true) (h : DR P N l.toArray bs ks H (fun T H n => Q .normal T H n) 0 [] l T n) : AW P N g (.region id l.toArray true) Q T H n := by
  intro Old wi K m a w _ hr ht
  obtain ⟨ps, n', g1, g2, g3, g4, g5, g6, g7⟩ := DR.all T l [] T n rfl h
  have plan : Plan P N l bs ks T H n n' ps := ⟨hc, g1, g4, g5, g6, fun j o ho => by have := g7 j o ho; simpa using this, by simpa using g3.2, hr.inS⟩
  refine wp_region_any hm ?_
  have hr' : Rel Old wi K m (fun i => i < n) H { w with drawn := w.drawn + 1 } := hr.drw (w.drawn + 1)
  have ht' : TRel K { w with drawn := w.drawn + 1 } m (fun i => i < n) N T a := ht.mono (fun _ h => h) (fun _ _ => rfl) (fun _ h => h) (fun _ _ => rfl)
  have hgf : ∀ j, j < l.length → (Array.replicate l.toArray.size false).getD j true = false := fun j hj => by
    simp [Array.getD, hj]
  refine plan.any (Old := Old) (wi := wi) (K := K) _ (fun a' w' hI => ?_) l.toArray.size _ a _ (by simp) ?_ ?_ ⟨m, K, GK.refl _ _, ?_, ?_⟩
  · obtain ⟨m', K', g, r1, t1⟩ := hI
    have hS : SL n ps (fun _ => true) = fun i => i < n' := by
      funext x
      refine propext ⟨?_, fun hx => ?_⟩
      · rintro (hx | ⟨j, p, hp, _, p1, p2⟩)
        · omega
        · have := g4 j p hp; omega
      · by_cases hx2 : x < n
        · exact .inl hx2
        · obtain ⟨j, p, hp, p1, p2⟩ := g6 x (by omega) hx
          exact .inr ⟨j, p, hp, rfl, p1, p2⟩
    rw [hS] at r1 t1
    exact ⟨_, _, n', m', K', g, g3.1, r1, t1⟩
  · intro i o hi hLi
    have hil : i < l.length := (List.getElem?_eq_some_iff.1 hi).1
    have := hgf i hil
    exact absurd hLi (by simp only; rw [this]; simp)
  · have : (List.range l.length).filter (fun j => !(Array.replicate l.toArray.size false).getD j true) = List.range l.length := by
      refine List.filter_eq_self.2 fun j hj => ?_
      rw [hgf j (List.mem_range.1 hj)]
      rfl
    rw [this]
    simp
  · have hS : SL n ps (fun j => (Array.replicate l.toArray.size false).getD j true) = fun i => i < n := by
      funext x
      refine propext ⟨?_, .inl⟩
      rintro (hx | ⟨j, p, hp, hL, _⟩)
      · exact hx
      · have hjl : j < l.length := by rw [← g1]; exact (List.getElem?_eq_some_iff.1 hp).1
        have hL' : (Array.replicate l.toArray.size false).getD j true = true := hL
        rw [hgf j hjl] at hL'
        cases hL'
    rw [hS, selH_false ps 0 H (fun j hj => by rw [Nat.zero_add]; exact hgf j (by omega))]
    exact hr'
  · have hS : SL n ps (fun j => (Array.replicate l.toArray.size false).getD j true) = fun i => i < n := by
      funext x
      refine propext ⟨?_, .inl⟩
      rintro (hx | ⟨j, p, hp, hL, _⟩)
      · exact hx
      · have hjl : j < l.length := by rw [← g1]; exact (List.getElem?_eq_some_iff.1 hp).1
        have hL' : (Array.replicate l.toArray.size false).getD j true = true := hL
        rw [hgf j hjl] at hL'
        cases hL'
    rw [hS, selT_false ps 0 T (fun j hj => by rw [Nat.zero_add]; exact hgf j (by omega))]
    exact ht'
end
end Go.Proofs.Ytglfcaioapdiaaa.Aw

-- A region that draws its order: the moves.
namespace Go.Proofs.Ytglfcaioapdiaaa.Aw
open Go Go.RowKit

theorem resT_look {T : Tp} {t : Nat} {v : AV} (h : look T t = some v) : ∀ {ts : List Tmp}, t ∈ ts → look (resT ts T) t = some v
  | [], hm => by cases hm
  | u :: ts, hm => by
    unfold resT
    rw [List.filterMap_cons]
    by_cases hu : u = t
    · subst hu
      simp only [h, Option.map_some, look_cons, if_true]
    · have hm' : t ∈ ts := by
        rcases List.mem_cons.1 hm with e | e
        · exact absurd e.symm hu
        · exact e
      have := resT_look h hm'
      unfold resT at this
      cases hl : look T u with
      | none => simpa using this
      | some x => simp only [Option.map_some, look_cons, if_neg hu]; exact this

theorem Step.monoT {P : Program} {o : Oper} {N : Nat} {T T' : Tp} {H H' : Hp} {n n' : Nat} {v : AV} {ro : Bool} (h : Step P o N T H n v H' n' ro) (ht : ∀ t v, look T t = some v → look T' t = some v) : Step P o N T' H n v H' n' ro :=
  ⟨h.1, fun Old wi K m S a w hS hr htr => h.2 Old wi K m S a w hS hr ⟨htr.dn, htr.sz, fun t v hl => htr.tm t v (ht t v hl)⟩⟩

/-- the effects alone, the newest first -/
def selE (L : Nat → Bool) : List (Nat × List (Nat × Option Blk)) → Hp → Hp
  | [], H => H
  | (j, E) :: r, H => match L j with
    | true => ovr E (selE L r H)
    | false => selE L r H

def DE (P : Program) (N : Nat) (ops : Array Oper) (bs ks : List Nat) (H₀ : Hp) (G : Tp → Hp → Nat → Prop) (i : Nat) (eff : List (Nat × List (Nat × Option Blk))) (os : List Oper) (T : Tp) (n : Nat) : Prop :=
  ∀ pre : List PO, pre.length = i → (∀ L, selH L 0 pre H₀ = selE L eff H₀) → DR P N ops bs ks H₀ G i pre os T n

section
variable {P : Program} {N : Nat} {ops : Array Oper} {bs ks : List Nat} {H₀ : Hp} {G : Tp → Hp → Nat → Prop} {i : Nat} {eff : List (Nat × List (Nat × Option Blk))} {o : Oper} {os : List Oper} {T : Tp} {n n' : Nat} {v : AV}

theorem aw_drawE {id g : Nat} {l : List Oper} {H : Hp} {Q : Exit → Tp → Hp → Nat → Prop} (bs ks : List Nat) (hm : P.follows .mixedOrders = true) (hc : chkB l bs ks = true) (h : DE P N l.toArray bs ks H (fun T H n => Q .normal T H n) 0 [] l T n) : AW P N g (.region id l.toArray true) Q T H n :=
  aw_draw bs ks hm hc (h [] rfl fun _ => rfl)

theorem sel_keep {pre : List PO} (h : ∀ L, selH L 0 pre H₀ = selE L eff H₀) (d : Option Nat) (v : AV) (a b : Nat) : ∀ L, selH L 0 (pre ++ [⟨d, v, [], a, b⟩]) H₀ = selE L eff H₀ := by
  intro L
  rw [selH_app, h]
  simp only [selH, ovr]
  try (cases L (0 + pre.length) <;> rfl)
theorem sel_add {pre : List PO} (hl : pre.length = i) (h : ∀ L, selH L 0 pre H₀ = selE L eff H₀) (d : Option Nat) (v : AV) (E : List (Nat × Option Blk)) (a b : Nat) : ∀ L, selH L 0 (pre ++ [⟨d, v, E, a, b⟩]) H₀ = selE L ((i, E) :: eff) H₀ := by
  intro L
  rw [selH_app, h]
  simp only [selH, selE, Nat.zero_add, hl]
  try (cases L i <;> rfl)

def effQ (sz : Nat) (bs : List Nat) (H₀ : Hp) (r : Nat × Nat) : List (Nat × List (Nat × Option Blk)) → Prop
  | [] => True
  | e :: l => (match lkE e.2 r.2 with
    | none => True
    | some ob => (Nat.blt e.1 sz && Nat.testBit (bs.getD e.1 0) r.1) = true ∨ look H₀ r.2 = ob) ∧ effQ sz bs H₀ r l
def effR (sz : Nat) (bs : List Nat) (H₀ : Hp) (eff : List (Nat × List (Nat × Option Blk))) : List (Nat × Nat) → Prop
  | [] => True
  | r :: R => effQ sz bs H₀ r eff ∧ effR sz bs H₀ eff R
theorem effR_get {sz : Nat} {bs : List Nat} {H₀ : Hp} {eff : List (Nat × List (Nat × Option Blk))} : ∀ {R : List (Nat × Nat)}, effR sz bs H₀ eff R → ∀ r ∈ R, effQ sz bs H₀ r eff
  | [], _, r, h => by cases h
  | q :: R, h, r, hr => by
    rcases List.mem_cons.1 hr with e | e
    · rw [e]; exact h.1
    · exact effR_get h.2 r e
theorem selE_keepQ {sz : Nat} {bs : List Nat} {H₀ : Hp} {L : Nat → Bool} {i id : Nat} (hL : ∀ j, j < sz → Nat.testBit (bs.getD j 0) i = true → L j = false) : ∀ (eff : List (Nat × List (Nat × Option Blk))), effQ sz bs H₀ (i, id) eff → look (selE L eff H₀) id = look H₀ id
  | [], _ => rfl
  | (j, E) :: r, h => by
    have ih := selE_keepQ hL r h.2
    have h1 := h.1
    simp only [selE]
    cases hLj : L j with
    | false => exact ih
    | true =>
      dsimp only
      rw [look_ovr]
      dsimp only at h1
      cases hl : lkE E id with
      | none => exact ih
      | some ob =>
        rw [hl] at h1
        dsimp only at h1
        rcases h1 with h1 | h1
        · simp only [Bool.and_eq_true, Nat.blt_eq] at h1
          have := hL j h1.1 h1.2
          rw [hLj] at this
          cases this
        · exact h1.symm
theorem dr_nil (hc : effR ops.size bs H₀ eff (rdP (ks.drop ops.size))) (h : G T (selE (fun _ => true) eff H₀) n) : DE P N ops bs ks H₀ G i eff [] T n := fun pre _ he => by
  show G T (selH (fun _ => true) 0 pre H₀) n ∧ KeepR ops bs ks H₀ pre
  refine ⟨by rw [he]; exact h, fun L k id hk hL => ?_⟩
  rw [he]
  exact selE_keepQ hL eff (effR_get hc (k, id) hk)
/-- it reads one block, which stands till then -/
theorem dr_r {id : Nat} {b : Blk} (hg : o.guard = none) (hd : dOk N o.dst = true) (hk : ks.getD i 0 = 0) (hR : (rdP (ks.drop ops.size)).contains (i, id) = true) (hl : look H₀ id = some b)
    (hs : ∀ H n, look H id = some b → Step P o N (resT (o.looksAt ops) T) H n v H n true)
    (h : DE P N ops bs ks H₀ G (i + 1) eff os (put T o.dst v) n) : DE P N ops bs ks H₀ G i eff (o :: os) T n := fun pre hlen he =>
  ⟨⟨o.dst, v, [], n, n⟩, rfl, Nat.le_refl _, ⟨rfl, hd, .inr ⟨.inl hg, .inl ⟨hk, rfl, rfl, fun H n hC => hs H n (by rw [hC id (by simpa using hR)]; exact hl)⟩⟩⟩, h _ (by simp [hlen]) (sel_keep he _ _ _ _)⟩

theorem dr_0 (hg : o.guard = none) (hd : dOk N o.dst = true) (hk : ks.getD i 0 = 0) (hs : ∀ H n, Step P o N (resT (o.looksAt ops) T) H n v H n true)
    (h : DE P N ops bs ks H₀ G (i + 1) eff os (put T o.dst v) n) : DE P N ops bs ks H₀ G i eff (o :: os) T n := fun pre hl he =>
  ⟨⟨o.dst, v, [], n, n⟩, rfl, Nat.le_refl _, ⟨rfl, hd, .inr ⟨.inl hg, (.inl ⟨hk, rfl, rfl, fun H n _ => hs H n⟩)⟩⟩, h _ (by simp [hl]) (sel_keep he _ _ _ _)⟩

theorem nil_in {lo hi : Nat} : ∀ (i : Nat) (b : Blk), look ([] : Hp) i = some b → lo ≤ i ∧ i < hi := fun i b hl => by simp [look_nil] at hl

/-- it reads -/
theorem dr_1 (hg : o.guard = none) (hd : dOk N o.dst = true) (hk : ks.getD i 0 = 1) (hs : Step P o N (resT (o.looksAt ops) T) (selE (depM bs ks i) eff H₀) n v (selE (depM bs ks i) eff H₀) n true)
    (h : DE P N ops bs ks H₀ G (i + 1) eff os (put T o.dst v) n) : DE P N ops bs ks H₀ G i eff (o :: os) T n := fun pre hl he =>
  ⟨⟨o.dst, v, [], n, n⟩, rfl, Nat.le_refl _, ⟨rfl, hd, .inr ⟨.inl hg, .inr (.inl ⟨hk, [], rfl, nil_in, by rw [he]; exact hs⟩)⟩⟩, h _ (by simp [hl]) (sel_keep he _ _ _ _)⟩

theorem one_in {n : Nat} (b : Blk) : ∀ (i : Nat) (c : Blk), look [(n, b)] i = some c → n ≤ i ∧ i < n + 1 := by
  intro i c hl
  rw [look_cons] at hl
  split at hl
  · rename_i he; subst he; exact ⟨Nat.le_refl _, Nat.lt_succ_self _⟩
  · cases hl
theorem two_in {id lo hi : Nat} {b : Blk} (b' : Blk) {Hd : Hp} (hl : look Hd id = some b) : ∀ (i : Nat) (ob : Option Blk), lkE [(id, some b')] i = some ob → (look Hd i).isSome = true ∨ (lo ≤ i ∧ i < hi) := by
  intro i ob h
  rw [lkE_cons] at h
  split at h
  · rename_i he; subst he; exact .inl (by rw [hl]; rfl)
  · cases h

/-- it makes one block -/
theorem dr_n {b : Blk} (hg : o.guard = none) (hd : dOk N o.dst = true) (hk : ks.getD i 0 = 1) (hs : Step P o N (resT (o.looksAt ops) T) (selE (depM bs ks i) eff H₀) n v ((n, b) :: selE (depM bs ks i) eff H₀) (n + 1) true)
    (h : DE P N ops bs ks H₀ G (i + 1) ((i, [(n, some b)]) :: eff) os (put T o.dst v) (n + 1)) : DE P N ops bs ks H₀ G i eff (o :: os) T n := fun pre hl he =>
  ⟨⟨o.dst, v, [(n, some b)], n, n + 1⟩, rfl, Nat.le_succ _, ⟨rfl, hd, .inr ⟨.inl hg, .inr (.inl ⟨hk, [(n, b)], rfl, one_in b, by rw [he]; exact hs⟩)⟩⟩, h _ (by simp [hl]) (sel_add hl he _ _ _ _ _)⟩

/-- it makes one block, whatever else is there -/
theorem dr_3 {b : Blk} (hg : o.guard = none) (hd : dOk N o.dst = true) (hk : ks.getD i 0 = 3) (hs : Step P o N (resT (o.looksAt ops) T) [] n v [(n, b)] (n + 1) true)
    (h : DE P N ops bs ks H₀ G (i + 1) ((i, [(n, some b)]) :: eff) os (put T o.dst v) (n + 1)) : DE P N ops bs ks H₀ G i eff (o :: os) T n := fun pre hl he =>
  ⟨⟨o.dst, v, [(n, some b)], n, n + 1⟩, rfl, Nat.le_succ _, ⟨rfl, hd, .inr ⟨.inl hg, .inr (.inr (.inl ⟨hk, [(n, b)], rfl, one_in b, hs⟩))⟩⟩, h _ (by simp [hl]) (sel_add hl he _ _ _ _ _)⟩

/-- it calls a function whose result is plain -/
theorem dr_c {f : Operand} {g : FuncId} {xs : Array Operand} {ts : Array TypeId} {caps args args' : List AV} (hg : o.guard = none) (hd : dOk N o.dst = true) (hk : ks.getD i 0 = 1)
    (ho : o.op = .call { callee := .value f, args := xs, argTypes := ts })
    (hf : evalA (resT (o.looksAt ops) T) f = some (.fn g caps)) (ha : xs.toList.mapM (evalA (resT (o.looksAt ops) T)) = some args) (hz : FzL (selE (depM bs ks i) eff H₀) (args ++ caps) args') (hro : RO P g args' n v [] n)
    (h : DE P N ops bs ks H₀ G (i + 1) eff os (put T o.dst v) n) : DE P N ops bs ks H₀ G i eff (o :: os) T n := fun pre hl he =>
  ⟨⟨o.dst, v, [], n, n⟩, rfl, hro.2.1, ⟨rfl, hd, .inr ⟨.inl hg, .inr (.inl ⟨hk, [], rfl, hro.2.2.1, s_call ho hf ha (by rw [he]; exact hz) hro⟩)⟩⟩, h _ (by simp [hl]) (sel_keep he _ _ _ _)⟩

/-- it calls a function that makes its result anew -/
theorem dr_cU {f : Operand} {g : FuncId} {xs : Array Operand} {ts : Array TypeId} {caps args args' : List AV} {U : Hp} (hg : o.guard = none) (hd : dOk N o.dst = true) (hk : ks.getD i 0 = 1)
    (ho : o.op = .call { callee := .value f, args := xs, argTypes := ts })
    (hf : evalA (resT (o.looksAt ops) T) f = some (.fn g caps)) (ha : xs.toList.mapM (evalA (resT (o.looksAt ops) T)) = some args) (hz : FzL (selE (depM bs ks i) eff H₀) (args ++ caps) args') (hro : RO P g args' n v U n')
    (h : DE P N ops bs ks H₀ G (i + 1) ((i, U.map (fun x => (x.1, some x.2))) :: eff) os (put T o.dst v) n') : DE P N ops bs ks H₀ G i eff (o :: os) T n := fun pre hl he =>
  ⟨⟨o.dst, v, U.map (fun x => (x.1, some x.2)), n, n'⟩, rfl, hro.2.1, ⟨rfl, hd, .inr ⟨.inl hg, .inr (.inl ⟨hk, U, rfl, hro.2.2.1, s_call ho hf ha (by rw [he]; exact hz) hro⟩)⟩⟩, h _ (by simp [hl]) (sel_add hl he _ _ _ _ _)⟩

/-- it writes one block -/
theorem dr_2 {id : Nat} {b b' : Blk} (hg : o.guard = none) (hd : dOk N o.dst = true) (hk : ks.getD i 0 = 2)
    (hs : Step P o N (resT (o.looksAt ops) T) (selE (depM bs ks i) eff H₀) n v (setH (selE (depM bs ks i) eff H₀) id b') n false) (hl : look (selE (depM bs ks i) eff H₀) id = some b)
    (h : DE P N ops bs ks H₀ G (i + 1) ((i, [(id, some b')]) :: eff) os (put T o.dst v) n) : DE P N ops bs ks H₀ G i eff (o :: os) T n := fun pre hlen he =>
  ⟨⟨o.dst, v, [(id, some b')], n, n⟩, rfl, Nat.le_refl _, ⟨rfl, hd, .inr ⟨.inl hg, .inr (.inr (.inr ⟨hk, setH (selE (depM bs ks i) eff H₀) id b', fun _ => by rw [he]; rfl, by rw [he]; exact two_in b' hl, by rw [he]; exact hs⟩))⟩⟩, h _ (by simp [hlen]) (sel_add hlen he _ _ _ _ _)⟩

/-- it uses up one block and makes another -/
theorem dr_app {id : Nat} {b0 b' : Blk} (hg : o.guard = none) (hd : dOk N o.dst = true) (hk : ks.getD i 0 = 2)
    (hs : Step P o N (resT (o.looksAt ops) T) (selE (depM bs ks i) eff H₀) n v ((n, b') :: del (selE (depM bs ks i) eff H₀) id) (n + 1) false) (hl : look (selE (depM bs ks i) eff H₀) id = some b0)
    (h : DE P N ops bs ks H₀ G (i + 1) ((i, [(n, some b'), (id, none)]) :: eff) os (put T o.dst v) (n + 1)) : DE P N ops bs ks H₀ G i eff (o :: os) T n := by
  intro pre hlen he
  have e1 : ∀ j, look ((n, b') :: del (selE (depM bs ks i) eff H₀) id) j = look (ovr [(n, some b'), (id, none)] (selH (depM bs ks i) 0 pre H₀)) j := fun j => by
    rw [he]
    simp only [ovr, look_cons]
    by_cases hj : n = j
    · rw [if_pos hj, if_pos hj]
    · rw [if_neg hj, if_neg hj, look_del_ne _ (fun e => hj e.symm)]
  have e2 : ∀ (j : Nat) (ob : Option Blk), lkE [(n, some b'), (id, none)] j = some ob → (look (selH (depM bs ks i) 0 pre H₀) j).isSome = true ∨ (n ≤ j ∧ j < n + 1) := fun j ob hj => by
    rw [lkE_cons] at hj
    split at hj
    · rename_i e; subst e; exact .inr ⟨Nat.le_refl _, Nat.lt_succ_self _⟩
    · rw [lkE_cons] at hj
      split at hj
      · rename_i e; subst e; left; rw [he, hl]; rfl
      · cases hj
  exact ⟨⟨o.dst, v, [(n, some b'), (id, none)], n, n + 1⟩, rfl, Nat.le_succ _, ⟨rfl, hd, .inr ⟨.inl hg, .inr (.inr (.inr ⟨hk, (n, b') :: del (selE (depM bs ks i) eff H₀) id, e1, e2, by rw [he]; exact hs⟩))⟩⟩, h _ (by simp [hlen]) (sel_add hlen he _ _ _ _ _)⟩

theorem fin_p {rs : List ResultVar} {u v : AV} {T : Tp} {H : Hp} (h : ResV P T H rs u) (e : u = v) (hr : renA id v = v) (h1 : idsOk 0 v = true) (h2 : noDeep v = true) : FinOk P rs v [] 0 T H :=
  ⟨⟨u, id, h, by rw [e, hr], trivial, rfl⟩, h1, h2, rfl⟩
theorem RO.ofp {f : FuncId} {fn : Func} {c : Code} {args : List AV} {v : AV} {rs : List ResultVar} (hf : P.funcs[f]? = some fn) (hN : fn.ntmps = N) (hb : fn.body = some c) (hg : goFn P f = true) (hl : Nat.ble args.length N = true) (hrs : fn.results.toList = rs)
    (hv : renA (fun i => i + n) v = v) (h : AW P N 0 c (Fin P rs v [] 0) (idx 0 args) [] 0) : RO P f args n v [] n := by
  subst hN hrs
  have := RO.of n 0 hf hb hg (by simpa using hl) (U := []) rfl h
  rw [hv] at this
  simpa [shH] using this
/-- the call of a function that returns a plain value -/
theorem RO.calls {f : FuncId} {args : List AV} {x : Value} {k k' : Nat} (h : RO P f args k (.v x) [] k') {K : Nat → Prop} {w : World} {xs : List Value} (hk : ∀ k, K k → k < w.heap.size) (hv : VRs K w args xs) :
    Calls P f xs.toArray w fun e w' => e = .returned x ∧ Below w.heap.size w w' :=
  (h.2.2.2 K w xs hk hv).mono fun e w' ⟨r, m', he, hn⟩ => by
    have := hn.vr
    cases this
    exact ⟨he, hn.below⟩
theorem VRs.nil {K : Nat → Prop} {w : World} : VRs K w [] [] := ⟨rfl, by simp⟩
theorem VRs.cons {K : Nat → Prop} {w : World} {v : AV} {x : Value} {vs : List AV} {xs : List Value} (h : VR K w (fun _ => ⟨0, 0, 0, false⟩) NoS v x) (hs : VRs K w vs xs) : VRs K w (v :: vs) (x :: xs) :=
  ⟨by simp [hs.1], fun j av y h1 h2 => by
    cases j with
    | zero => simp at h1 h2; subst h1 h2; exact h
    | succ j => simp at h1 h2; exact hs.2 j av y h1 h2⟩
theorem VR.aggv {K : Nat → Prop} {w : World} {m : Nat → Loc} {S : Nat → Prop} (xs : List Value) : VR K w m S (.agg (xs.map .v)) (.agg xs.toArray) :=
  .agg _ _ xs (by simp) fun j cv y h1 h2 => by rw [List.getElem?_map, h2] at h1; simp at h1; subst h1; exact .v _ _

variable {dst : Option Tmp} {op : Op} {ty : TypeId} {pos : String} {after : Array Edge}
theorem looks_guard {j t : Nat} {b : Bool} (hj : ((ops[j]?).bind (·.dst)) = some t) : t ∈ (⟨dst, op, ty, pos, after, some (j, b)⟩ : Oper).looksAt ops := by
  unfold Oper.looksAt
  simp [hj]
theorem looks_none {t : Nat} {g : Option (Nat × Bool)} (h : t ∈ (⟨dst, op, ty, pos, after, none⟩ : Oper).looksAt ops) : t ∈ (⟨dst, op, ty, pos, after, g⟩ : Oper).looksAt ops := by
  unfold Oper.looksAt at h ⊢
  simp only [List.append_nil] at h
  exact List.mem_append_left _ h
theorem resT_none {g : Option (Nat × Bool)} {t : Nat} {v : AV} (h : look (resT ((⟨dst, op, ty, pos, after, none⟩ : Oper).looksAt ops) T) t = some v) : look (resT ((⟨dst, op, ty, pos, after, g⟩ : Oper).looksAt ops) T) t = some v := by
  obtain ⟨h1, h2⟩ := look_resT h
  exact resT_look h2 (looks_none h1)

theorem dr_g {j t : Nat} {b b' : Bool} (hj : ((ops[j]?).bind (·.dst)) = some t) (htn : Nat.blt t N = true) (hl : look T t = some (.v (.bool b'))) (hb : b' = b)
    (h : DE P N ops bs ks H₀ G i eff (⟨dst, op, ty, pos, after, none⟩ :: os) T n) : DE P N ops bs ks H₀ G i eff (⟨dst, op, ty, pos, after, some (j, b)⟩ :: os) T n := by
  intro pre hlen he
  obtain ⟨p, h1, h2, ⟨e1, e2, hf⟩, h4⟩ := h pre hlen he
  subst hb
  refine ⟨p, h1, h2, ⟨e1, e2, ?_⟩, h4⟩
  rcases hf with ⟨_, _, _, _, hg, _⟩ | ⟨_, hk⟩
  · cases hg
  · refine .inr ⟨.inr ⟨j, b', t, rfl, hj, htn, resT_look hl (looks_guard hj)⟩, ?_⟩
    rcases hk with ⟨a1, a2, a3, a4⟩ | ⟨a1, U, a2, a3, a4⟩ | ⟨a1, U, a2, a3, a4⟩ | ⟨a1, H', a2, a3, a4⟩
    · exact .inl ⟨a1, a2, a3, fun H n hC => (a4 H n hC).monoT fun t v => resT_none⟩
    · exact .inr (.inl ⟨a1, U, a2, a3, a4.monoT fun t v => resT_none⟩)
    · exact .inr (.inr (.inl ⟨a1, U, a2, a3, a4.monoT fun t v => resT_none⟩))
    · exact .inr (.inr (.inr ⟨a1, H', a2, a3, a4.monoT fun t v => resT_none⟩))
theorem dr_s {j t : Nat} {b b' : Bool} (hj : ((ops[j]?).bind (·.dst)) = some t) (htn : Nat.blt t N = true) (hl : look T t = some (.v (.bool b'))) (hb : b' = !b) (hd : dOk N dst = true)
    (h : DE P N ops bs ks H₀ G (i + 1) eff os (put T dst (.v undef)) n) : DE P N ops bs ks H₀ G i eff (⟨dst, op, ty, pos, after, some (j, b)⟩ :: os) T n := fun pre hlen he =>
  ⟨⟨dst, .v undef, [], n, n⟩, rfl, Nat.le_refl _, ⟨rfl, hd, .inl ⟨j, b, t, .bool b', rfl, hj, htn, resT_look hl (looks_guard hj), by subst hb; cases b <;> rfl, rfl, rfl, rfl⟩⟩, h _ (by simp [hlen]) (sel_keep he _ _ _ _)⟩
theorem dr_sU {j t : Nat} {b : Bool} {y : Value} (hj : ((ops[j]?).bind (·.dst)) = some t) (htn : Nat.blt t N = true) (hl : look T t = some (.v y)) (hb : noG y b = true) (hd : dOk N dst = true)
    (h : DE P N ops bs ks H₀ G (i + 1) eff os (put T dst (.v undef)) n) : DE P N ops bs ks H₀ G i eff (⟨dst, op, ty, pos, after, some (j, b)⟩ :: os) T n := fun pre hlen he =>
  ⟨⟨dst, .v undef, [], n, n⟩, rfl, Nat.le_refl _, ⟨rfl, hd, .inl ⟨j, b, t, y, rfl, hj, htn, resT_look hl (looks_guard hj), hb, rfl, rfl, rfl⟩⟩, h _ (by simp [hlen]) (sel_keep he _ _ _ _)⟩
theorem dr_gs {j t : Nat} {b b' : Bool} (hj : ((ops[j]?).bind (·.dst)) = some t) (htn : Nat.blt t N = true) (hl : look T t = some (.v (.bool b'))) (hd : dOk N dst = true)
    (h1 : b' = b → DE P N ops bs ks H₀ G i eff (⟨dst, op, ty, pos, after, none⟩ :: os) T n)
    (h2 : b' = (!b) → DE P N ops bs ks H₀ G (i + 1) eff os (put T dst (.v undef)) n) : DE P N ops bs ks H₀ G i eff (⟨dst, op, ty, pos, after, some (j, b)⟩ :: os) T n := by
  by_cases hb : b' = b
  · exact dr_g hj htn hl hb (h1 hb)
  · have hb' : b' = !b := by cases b <;> cases b' <;> simp_all
    exact dr_s hj htn hl hb' hd (h2 hb')
end
end Go.Proofs.Ytglfcaioapdiaaa.Aw
