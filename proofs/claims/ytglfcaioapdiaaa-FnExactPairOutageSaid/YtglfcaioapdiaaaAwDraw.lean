/-
  A region that draws its order, said of the abstract state: the operations are shown once, in the text's order.
-/
import Derived.Test.YtglfcaioapdiaaaAwTac
namespace Go.Proofs.Ytglfcaioapdiaaa.Aw
open Go Go.RowKit

structure PO where
  dst : Option Nat
  v : AV
  E : List (Nat × Option Blk)
  lo : Nat
  hi : Nat

def lkE : List (Nat × Option Blk) → Nat → Option (Option Blk)
  | [], _ => none
  | (i, b) :: l, k => match Nat.beq i k with
    | true => some b
    | false => lkE l k
theorem lkE_cons (i : Nat) (b : Option Blk) (l : List (Nat × Option Blk)) (k : Nat) : lkE ((i, b) :: l) k = if i = k then some b else lkE l k := by
  show (match Nat.beq i k with | true => some b | false => lkE l k) = _
  by_cases h : i = k
  · subst h; rw [Nat.beq_refl, if_pos rfl]
  · have : Nat.beq i k = false := by
      cases hb : Nat.beq i k
      · rfl
      · exact absurd (Nat.eq_of_beq_eq_true hb) h
    rw [this, if_neg h]
def ovr : List (Nat × Option Blk) → Hp → Hp
  | [], H => H
  | (i, some b) :: l, H => (i, b) :: del (ovr l H) i
  | (i, none) :: l, H => del (ovr l H) i
theorem look_ovr : ∀ (E : List (Nat × Option Blk)) (H : Hp) (k : Nat), look (ovr E H) k = (lkE E k).getD (look H k)
  | [], H, k => rfl
  | (i, some b) :: l, H, k => by
    simp only [ovr, look_cons, lkE_cons]
    by_cases h : i = k
    · simp [h]
    · rw [if_neg h, if_neg h, look_del_ne _ (fun e => h e.symm)]; exact look_ovr l H k
  | (i, none) :: l, H, k => by
    simp only [ovr, lkE_cons]
    by_cases h : i = k
    · subst h; simp [look_del_same]
    · rw [if_neg h, look_del_ne _ (fun e => h e.symm)]; exact look_ovr l H k

def selT (L : Nat → Bool) : Nat → List PO → Tp → Tp
  | _, [], T => T
  | k, p :: ps, T => selT L (k + 1) ps (match L k with
    | true => put T p.dst p.v
    | false => T)
def selH (L : Nat → Bool) : Nat → List PO → Hp → Hp
  | _, [], H => H
  | k, p :: ps, H => selH L (k + 1) ps (match L k with
    | true => ovr p.E H
    | false => H)

theorem look_put (T : Tp) (d : Option Nat) (v : AV) (t : Nat) : look (put T d v) t = if d = some t then some v else look T t := by
  cases d with
  | none => simp [put]
  | some d => simp [put, look_cons]

theorem selT_congr {L L' : Nat → Bool} {t : Nat} : ∀ (ps : List PO) (k : Nat) (T T' : Tp), look T t = look T' t → (∀ j p, ps[j]? = some p → p.dst = some t → L (k + j) = L' (k + j)) → look (selT L k ps T) t = look (selT L' k ps T') t
  | [], k, T, T', h, _ => h
  | p :: ps, k, T, T', h, hj => by
    simp only [selT]
    refine selT_congr ps (k + 1) _ _ ?_ (fun j q hq hd => by have := hj (j + 1) q (by simpa using hq) hd; rw [show k + 1 + j = k + (j + 1) by omega]; exact this)
    have h0 := hj 0 p rfl
    rw [Nat.add_zero] at h0
    by_cases hd : p.dst = some t
    · rw [← h0 hd]
      cases L k
      · exact h
      · simp [look_put, hd]
    · cases L k <;> cases L' k <;> simp [look_put, hd, h]
theorem selH_congr {L L' : Nat → Bool} {t : Nat} : ∀ (ps : List PO) (k : Nat) (H H' : Hp), look H t = look H' t → (∀ j p, ps[j]? = some p → lkE p.E t ≠ none → L (k + j) = L' (k + j)) → look (selH L k ps H) t = look (selH L' k ps H') t
  | [], k, H, H', h, _ => h
  | p :: ps, k, H, H', h, hj => by
    simp only [selH]
    refine selH_congr ps (k + 1) _ _ ?_ (fun j q hq hd => by have := hj (j + 1) q (by simpa using hq) hd; rw [show k + 1 + j = k + (j + 1) by omega]; exact this)
    have h0 := hj 0 p rfl
    rw [Nat.add_zero] at h0
    cases hd : lkE p.E t with
    | none => cases L k <;> cases L' k <;> simp [look_ovr, hd, h]
    | some b =>
      rw [← h0 (by simp [hd])]
      cases L k
      · exact h
      · simp [look_ovr, hd]
theorem selT_app (L : Nat → Bool) : ∀ (ps qs : List PO) (k : Nat) (T : Tp), selT L k (ps ++ qs) T = selT L (k + ps.length) qs (selT L k ps T)
  | [], qs, k, T => by simp [selT]
  | p :: ps, qs, k, T => by simp only [List.cons_append, selT, List.length_cons]; rw [selT_app L ps qs]; congr 1; omega
theorem selH_app (L : Nat → Bool) : ∀ (ps qs : List PO) (k : Nat) (H : Hp), selH L k (ps ++ qs) H = selH L (k + ps.length) qs (selH L k ps H)
  | [], qs, k, H => by simp [selH]
  | p :: ps, qs, k, H => by simp only [List.cons_append, selH, List.length_cons]; rw [selH_app L ps qs]; congr 1; omega
/-- what a selection's heap holds comes from the beginning or out of one of the selected -/
theorem selH_from {L : Nat → Bool} {i : Nat} {b : Blk} : ∀ (ps : List PO) (k : Nat) (H : Hp), look (selH L k ps H) i = some b → look H i = some b ∨ ∃ j p, ps[j]? = some p ∧ L (k + j) = true ∧ lkE p.E i = some (some b)
  | [], k, H, h => .inl h
  | p :: ps, k, H, h => by
    simp only [selH] at h
    rcases selH_from ps (k + 1) _ h with h1 | ⟨j, q, h1, h2, h3⟩
    · cases hL : L k with
      | false => rw [hL] at h1; exact .inl h1
      | true =>
        rw [hL] at h1
        simp only [look_ovr] at h1
        cases he : lkE p.E i with
        | none => rw [he] at h1; exact .inl h1
        | some ob => rw [he] at h1; simp only [Option.getD_some] at h1; subst h1; exact .inr ⟨0, p, rfl, by simpa using hL, he⟩
    · exact .inr ⟨j + 1, q, by simpa using h1, by rw [show k + (j + 1) = k + 1 + j by omega]; exact h2, h3⟩

def resT (ts : List Tmp) (T : Tp) : Tp := ts.filterMap fun t => (look T t).map fun v => (t, v)
theorem look_resT {ts : List Tmp} {T : Tp} {t : Nat} {v : AV} (h : look (resT ts T) t = some v) : t ∈ ts ∧ look T t = some v := by
  induction ts with
  | nil => simp [resT, look_nil] at h
  | cons u ts ih =>
    unfold resT at h ih
    rw [List.filterMap_cons] at h
    cases hu : look T u with
    | none => simp only [hu, Option.map_none] at h; obtain ⟨h1, h2⟩ := ih h; exact ⟨List.mem_cons_of_mem _ h1, h2⟩
    | some x =>
      simp only [hu, Option.map_some, look_cons] at h
      split at h
      · rename_i he; subst he; simp only [Option.some.injEq] at h; subst h; exact ⟨List.mem_cons_self, hu⟩
      · obtain ⟨h1, h2⟩ := ih h; exact ⟨List.mem_cons_of_mem _ h1, h2⟩

def depM (bs ks : List Nat) (i j : Nat) : Bool := Nat.testBit (bs.getD i 0) j && Nat.blt 0 (ks.getD j 0) && Nat.blt j i

/-- (operation, block) for each load that needs but the one block: kept behind the kinds -/
def rdP : List Nat → List (Nat × Nat)
  | a :: b :: l => (a, b) :: rdP l
  | _ => []
def SameAt (ops : Array Oper) (ks : List Nat) (H₀ : Hp) (i : Nat) (H : Hp) : Prop := ∀ id, (i, id) ∈ rdP (ks.drop ops.size) → look H id = look H₀ id
def FactT (P : Program) (N : Nat) (ops : Array Oper) (o : Oper) (T : Tp) (Hd : Hp) (k : Nat) (C : Hp → Prop) (p : PO) : Prop :=
  p.dst = o.dst ∧ dOk N o.dst = true ∧
  ((∃ j b t y, o.guard = some (j, b) ∧ ((ops[j]?).bind (·.dst)) = some t ∧ Nat.blt t N = true ∧ look T t = some (.v y) ∧ noG y b = true ∧ p.v = .v undef ∧ p.E = [] ∧ p.lo = p.hi) ∨
   ((o.guard = none ∨ ∃ j b t, o.guard = some (j, b) ∧ ((ops[j]?).bind (·.dst)) = some t ∧ Nat.blt t N = true ∧ look T t = some (.v (.bool b))) ∧
    ((k = 0 ∧ p.E = [] ∧ p.lo = p.hi ∧ ∀ H n, C H → Step P o N T H n p.v H n true) ∨
     (k = 1 ∧ ∃ U, p.E = U.map (fun x => (x.1, some x.2)) ∧ (∀ i b, look U i = some b → p.lo ≤ i ∧ i < p.hi) ∧ Step P o N T Hd p.lo p.v (U ++ Hd) p.hi true) ∨
     (k = 3 ∧ ∃ U, p.E = U.map (fun x => (x.1, some x.2)) ∧ (∀ i b, look U i = some b → p.lo ≤ i ∧ i < p.hi) ∧ Step P o N T [] p.lo p.v U p.hi true) ∨
     (k = 2 ∧ ∃ H', (∀ i, look H' i = look (ovr p.E Hd) i) ∧ (∀ i ob, lkE p.E i = some ob → (look Hd i).isSome = true ∨ (p.lo ≤ i ∧ i < p.hi)) ∧ Step P o N T Hd p.lo p.v H' p.hi false))))

/-- the blocks of such loads stand until they have come -/
def KeepR (ops : Array Oper) (bs ks : List Nat) (H₀ : Hp) (ps : List PO) : Prop :=
  ∀ (L : Nat → Bool) (i id : Nat), (i, id) ∈ rdP (ks.drop ops.size) → (∀ j, j < ops.size → Nat.testBit (bs.getD j 0) i = true → L j = false) → look (selH L 0 ps H₀) id = look H₀ id
def DR (P : Program) (N : Nat) (ops : Array Oper) (bs ks : List Nat) (H₀ : Hp) (G : Tp → Hp → Nat → Prop) : Nat → List PO → List Oper → Tp → Nat → Prop
  | _, pre, [], T, n => G T (selH (fun _ => true) 0 pre H₀) n ∧ KeepR ops bs ks H₀ pre
  | i, pre, o :: os, T, n => ∃ p, p.lo = n ∧ n ≤ p.hi ∧ FactT P N ops o (resT (o.looksAt ops) T) (selH (depM bs ks i) 0 pre H₀) (ks.getD i 0) (SameAt ops ks H₀ i) p ∧ DR P N ops bs ks H₀ G (i + 1) (pre ++ [p]) os (put T o.dst p.v) p.hi

/-- all of it, as a list of outcomes -/
theorem DR.all {P : Program} {N : Nat} {ops : Array Oper} {bs ks : List Nat} {H₀ : Hp} {G : Tp → Hp → Nat → Prop} (T₀ : Tp) : ∀ (os : List Oper) (pre : List PO) (T : Tp) (n : Nat), T = selT (fun _ => true) 0 pre T₀ → DR P N ops bs ks H₀ G pre.length pre os T n →
    ∃ (ps : List PO) (n' : Nat), ps.length = os.length ∧ n ≤ n' ∧ (G (selT (fun _ => true) 0 (pre ++ ps) T₀) (selH (fun _ => true) 0 (pre ++ ps) H₀) n' ∧ KeepR ops bs ks H₀ (pre ++ ps)) ∧
      (∀ (j : Nat) (p : PO), ps[j]? = some p → n ≤ p.lo ∧ p.lo ≤ p.hi ∧ p.hi ≤ n') ∧ (∀ (i j : Nat) (p q : PO), ps[i]? = some p → ps[j]? = some q → i < j → p.hi ≤ q.lo) ∧
      (∀ x, n ≤ x → x < n' → ∃ (j : Nat) (p : PO), ps[j]? = some p ∧ p.lo ≤ x ∧ x < p.hi) ∧
      ∀ (j : Nat) (o : Oper), os[j]? = some o → ∃ p, ps[j]? = some p ∧
        FactT P N ops o (resT (o.looksAt ops) (selT (fun _ => true) 0 (pre ++ ps.take j) T₀)) (selH (depM bs ks (pre.length + j)) 0 (pre ++ ps.take j) H₀) (ks.getD (pre.length + j) 0) (SameAt ops ks H₀ (pre.length + j)) p
  | [], pre, T, n, hT, h => ⟨[], n, rfl, Nat.le_refl _, by subst hT; simpa [DR] using h, by simp, by simp, fun x h1 h2 => absurd h2 (by omega), by simp⟩
  | o :: os, pre, T, n, hT, h => by
    obtain ⟨p, h1, h2, h3, h4⟩ := h
    have h4 : DR P N ops bs ks H₀ G (pre ++ [p]).length (pre ++ [p]) os (put T o.dst p.v) p.hi := by rw [List.length_append]; exact h4
    have hT' : put T o.dst p.v = selT (fun _ => true) 0 (pre ++ [p]) T₀ := by
      rw [selT_app, ← hT]
      simp only [selT]
      rw [h3.1]
    obtain ⟨ps, n', g1, g2, g3, g4, g5, g6, g7⟩ := DR.all T₀ os (pre ++ [p]) _ p.hi hT' h4
    refine ⟨p :: ps, n', by simp [g1], by omega, by simpa using g3, fun j q hq => ?_, fun i j a b hi hj hij => ?_, fun x hx1 hx2 => ?_, fun j o' ho' => ?_⟩
    · cases j with
      | zero => simp at hq; subst hq; omega
      | succ j => simp at hq; have := g4 j q hq; omega
    · cases j with
      | zero => omega
      | succ j =>
        simp at hj
        cases i with
        | zero => simp at hi; subst hi; exact (g4 j b hj).1
        | succ i => simp at hi; exact g5 i j a b hi hj (by omega)
    · by_cases hx : x < p.hi
      · exact ⟨0, p, rfl, by omega, hx⟩
      · obtain ⟨j, q, hq, h⟩ := g6 x (by omega) hx2
        exact ⟨j + 1, q, by simpa using hq, h⟩
    · cases j with
      | zero =>
        simp at ho'
        subst ho'
        exact ⟨p, rfl, by simpa [hT] using h3⟩
      | succ j =>
        simp at ho'
        obtain ⟨q, hq, hf⟩ := g7 j o' ho'
        refine ⟨q, by simpa using hq, ?_⟩
        simp only [List.length_append, List.length_cons, List.length_nil, Nat.zero_add, List.append_assoc, List.singleton_append] at hf
        rw [show pre.length + 1 + j = pre.length + (j + 1) by omega] at hf
        simpa using hf

/-- the check of a region: 'bs' names some of those that come before each operation; what may meet is ordered -/
def ordB (bs : List Nat) (i j : Nat) : Bool := Nat.testBit (bs.getD i 0) j || Nat.testBit (bs.getD j 0) i
def chkB (ops : List Oper) (bs ks : List Nat) : Bool :=
  Nat.beq bs.length ops.length && Nat.ble ops.length ks.length && Region.noSelect ops.toArray &&
  (List.range ops.length).all fun i => match ops[i]? with
    | none => true
    | some o =>
      o.after.all (fun e => !Region.binds .any e || Nat.blt e.on i) &&
      (List.range ops.length).all fun j =>
        (!Nat.testBit (bs.getD i 0) j || (Nat.blt j i && (o.after.any (fun e => Region.binds .any e && (Nat.beq e.on j || Nat.testBit (bs.getD e.on 0) j))) && (Nat.beq ((bs.getD i 0) ||| (bs.getD j 0)) (bs.getD i 0)))) &&
        (Nat.beq i j || ordB bs i j || (match ops[j]? with
          | none => true
          | some o' => (match o'.dst with
            | some d => !(o.looksAt ops.toArray).contains d && o.dst != some d
            | none => true))) &&
        (Nat.beq i j || ordB bs i j || !(Nat.beq (ks.getD i 0) 2) || Nat.beq (ks.getD j 0) 0 || Nat.beq (ks.getD j 0) 3)

end Go.Proofs.Ytglfcaioapdiaaa.Aw
