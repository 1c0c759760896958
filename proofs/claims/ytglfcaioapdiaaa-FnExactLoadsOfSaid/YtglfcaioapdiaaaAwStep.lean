/-
  One operation, said of the abstract state: what a step is; new blocks; writes.
-/
import Derived.Test.YtglfcaioapdiaaaAw
namespace Go.Proofs.Ytglfcaioapdiaaa.Aw
open Go Go.RowKit

inductive TK where
  | struct (fs : List (Nat × Nat × Bool))
  | slice (elem : TypeId) (esize ebytes : Nat) (ezero : List Value)
  | array (len esize : Nat) (eagg : Bool)
  | int (k : IntKind)
  | str
  | bool
  | other
structure TI where
  cells : Nat
  agg : Bool
  bytes : Nat
  zero : List Value
  k : TK
def aggD : TypeDesc → Bool
  | .struct _ | .array _ _ => true
  | _ => false
def isAggP (P : Program) (t : TypeId) : Bool := match P.underlying t with
  | some d => aggD d
  | none => false
def tkOf (P : Program) : TypeDesc → TK
  | .struct fs => if fs.all (fun f => (P.underlying f.type).isSome && (P.info? f.type).isSome) then .struct (fs.toList.map fun f => (f.offset, P.cellsOf f.type, isAggP P f.type)) else .other
  | .slice e => match P.info? e with
    | some i => match i.zero with
      | some z => .slice e i.size i.bytes z.cells.toList
      | none => .other
    | none => .other
  | .array n e => if (P.underlying e).isSome && (P.info? e).isSome then .array n (P.cellsOf e) (isAggP P e) else .other
  | .int k => .int k
  | .string => .str
  | .bool => .bool
  | _ => .other
def tiOf (P : Program) (t : TypeId) : Option TI :=
  match P.info? t, P.underlying t with
  | some i, some d => match i.zero with
    | some z => some ⟨i.size, aggD d, i.bytes, z.cells.toList, tkOf P d⟩
    | none => none
  | _, _ => none
def TyOk (P : Program) (ty : TypeId → Option TI) : Prop := ∀ t i, ty t = some i → tiOf P t = some i

theorem tiOf_spec {P : Program} {t : TypeId} {ti : TI} (h : tiOf P t = some ti) :
    ∃ i d z, P.info? t = some i ∧ P.underlying t = some d ∧ i.zero = some z ∧ i.size = ti.cells ∧ aggD d = ti.agg ∧ i.bytes = ti.bytes ∧ z.cells.toList = ti.zero ∧ tkOf P d = ti.k := by
  unfold tiOf at h
  split at h
  · rename_i i d hi hd
    split at h
    · rename_i z hz
      simp only [Option.some.injEq] at h
      subst h
      exact ⟨i, d, z, hi, hd, hz, rfl, rfl, rfl, rfl, rfl⟩
    · cases h
  · cases h

def addS (S : Nat → Prop) (n n' : Nat) : Nat → Prop := fun i => S i ∨ (n ≤ i ∧ i < n')

structure Aft (Old : Nat → Prop) (wi : WI) (K : Nat → Prop) (m : Nat → Loc) (S : Nat → Prop) (w : World) (n : Nat) (v : AV) (H' : Hp) (n' : Nat) (ro : Bool) (r : Value) (w' : World) (m' : Nat → Loc) (K' : Nat → Prop) : Prop where
  ag : ∀ i, ¬ (n ≤ i ∧ i < n') → m' i = m i
  gk : GK Old K K'
  rel : Rel Old wi K' m' (addS S n n') H' w'
  vr : VR K' w' m' (addS S n n') v r
  kk : ∀ k, K k → w'.heap[k]? = w.heap[k]?
  fr : ro = true → Below w.heap.size w w' ∧ (∀ i, n ≤ i → i < n' → (m' i).ph = false → w.heap.size ≤ (m' i).blk) ∧ ∀ k, K' k → k < w.heap.size → K k

def Step (P : Program) (o : Oper) (N : Nat) (T : Tp) (H : Hp) (n : Nat) (v : AV) (H' : Hp) (n' : Nat) (ro : Bool) : Prop :=
  n ≤ n' ∧ ∀ (Old : Nat → Prop) (wi : WI) (K : Nat → Prop) (m : Nat → Loc) (S : Nat → Prop) (a : Act) (w : World),
    (∀ i, n ≤ i → i < n' → ¬ S i) → Rel Old wi K m S H w → TRel K w m S N T a →
    ∀ (next : Act → World → Prop) (Q : Exit → Act → World → Prop),
      (∀ r w' m' K', Aft Old wi K m S w n v H' n' ro r w' m' K' → next (a.put o.dst r) w') → o.wp P a w next Q

/-- the world with another number of draws -/
def drw (w : World) (k : Nat) : World := { w with drawn := k }
theorem below_drw {B : Nat} {a w : World} (h : Below B a w) (n : Nat) : Below B a (drw w n) := h.trans ⟨rfl, rfl, rfl, Nat.le_refl _, fun _ _ => rfl⟩

section
variable {Old : Nat → Prop} {wi : WI} {K : Nat → Prop} {m m' : Nat → Loc} {S S' : Nat → Prop} {H H' : Hp} {w w' : World}
theorem BR.mono {i : Nat} {b : Blk} (h : BR K w m S i b) (hw : ∀ k, K k → w'.heap[k]? = w.heap[k]?) (hb : w'.heap[(m i).blk]? = w.heap[(m i).blk]?)
    (hS : ∀ i, S i → S' i) (hm : ∀ i, S i → m' i = m i) (hi : S i) : BR K w' m' S' i b := by
  obtain ⟨cur, h1, h2, h3⟩ := h.ex
  refine ⟨by rw [hm i hi]; exact h.nk, by rw [hm i hi]; exact h.sz, by rw [hm i hi]; exact h.cap, by rw [hm i hi]; exact h.capm, h.plv, cur, by rw [hm i hi, hb]; exact h1, by rw [hm i hi]; exact h2, fun r row hr => ⟨(h3 r row hr).1, fun j cv hj => ?_⟩⟩
  obtain ⟨x, hx, h1, hv⟩ := (h3 r row hr).2 j cv hj
  exact ⟨x, hx, h1, hv.mono (fun _ hk => hk) hw (fun i hi => ⟨hS i hi.1, hi.2⟩) (fun i hi => hm i hi.1)⟩

/-- .. where more may be read only -/
theorem BR.mono2 {K' : Nat → Prop} {i : Nat} {b : Blk} (h : BR K w m S i b) (hK : ∀ k, K k → K' k) (hn : K' (m i).blk → K (m i).blk) (hw : ∀ k, K k → w'.heap[k]? = w.heap[k]?) (hb : w'.heap[(m i).blk]? = w.heap[(m i).blk]?)
    (hS : ∀ i, S i → S' i) (hm : ∀ i, S i → m' i = m i) (hi : S i) : BR K' w' m' S' i b := by
  obtain ⟨cur, h1, h2, h3⟩ := h.ex
  refine ⟨by rw [hm i hi]; exact fun hk => h.nk (hn hk), by rw [hm i hi]; exact h.sz, by rw [hm i hi]; exact h.cap, by rw [hm i hi]; exact h.capm, h.plv, cur, by rw [hm i hi, hb]; exact h1, by rw [hm i hi]; exact h2, fun r row hr => ⟨(h3 r row hr).1, fun j cv hj => ?_⟩⟩
  obtain ⟨x, hx, h1, hv⟩ := (h3 r row hr).2 j cv hj
  exact ⟨x, hx, h1, hv.mono hK hw (fun i hi => ⟨hS i hi.1, hi.2⟩) (fun i hi => hm i hi.1)⟩

theorem OB.mono2 {K' : Nat → Prop} {i : Nat} {b : Blk} (h : OB K w m S i b) (hK : ∀ k, K k → K' k) (hn : (m i).ph = false → K' (m i).blk → K (m i).blk) (hw : ∀ k, K k → w'.heap[k]? = w.heap[k]?) (hb : (m i).ph = false → BR K w m S i b → w'.heap[(m i).blk]? = w.heap[(m i).blk]?)
    (hS : ∀ i, S i → S' i) (hm : ∀ i, S i → m' i = m i) (hi : S i) : OB K' w' m' S' i b := by
  rcases h with ⟨h1, h2⟩ | ⟨h1, h2⟩
  · exact .inl ⟨by rw [hm i hi]; exact h1, h2⟩
  · exact .inr ⟨by rw [hm i hi]; exact h1, h2.mono2 hK (hn h1) hw (hb h1 h2) hS hm hi⟩
theorem OB.mono {i : Nat} {b : Blk} (h : OB K w m S i b) (hw : ∀ k, K k → w'.heap[k]? = w.heap[k]?) (hb : (m i).ph = false → BR K w m S i b → w'.heap[(m i).blk]? = w.heap[(m i).blk]?)
    (hS : ∀ i, S i → S' i) (hm : ∀ i, S i → m' i = m i) (hi : S i) : OB K w' m' S' i b :=
  h.mono2 (fun _ h => h) (fun _ h => h) hw hb hS hm hi
/-- what holds a row is there -/
theorem OB.real {i : Nat} {b : Blk} (h : OB K w m S i b) {r : Nat} {row : List AV} (hr : b.rows[r]? = some row) : (m i).ph = false ∧ BR K w m S i b := by
  rcases h with ⟨_, h2⟩ | h
  · rw [h2] at hr; simp at hr
  · exact h
theorem OB.br {i : Nat} {b : Blk} (h : OB K w m S i b) (hp : (m i).ph = false) : BR K w m S i b := by
  rcases h with ⟨h1, _⟩ | h
  · rw [hp] at h1; cases h1
  · exact h.2

theorem Rel.monoS (h : Rel Old wi K m S H w) (hS : ∀ i, S i → S' i) (hm : ∀ i, S i → m' i = m i) : Rel Old wi K m' S' H w :=
  { h with
    inS := fun i b hl => hS i (h.inS i b hl)
    pin := fun i l hp => (hm i (h.pinS i l hp)).trans (h.pin i l hp)
    pinS := fun i l hp => hS i (h.pinS i l hp)
    own := fun i b hl => (h.own i b hl).mono (fun _ _ => rfl) (fun _ _ => rfl) hS hm (h.inS i b hl)
    oown := fun i b hl => by rw [hm i (h.inS i b hl)]; exact h.oown i b hl
    om := fun i b hl => by rw [hm i (h.inS i b hl)]; exact h.om i b hl
    inj := fun i j bi bj hi hj hne => by rw [hm i (h.inS i bi hi), hm j (h.inS j bj hj)]; exact h.inj i j bi bj hi hj hne }

theorem Rel.sub (h : Rel Old wi K m S H w) (hH : ∀ i b, look H' i = some b → look H i = some b) : Rel Old wi K m S H' w :=
  { h with
    inS := fun i b hl => h.inS i b (hH i b hl)
    own := fun i b hl => h.own i b (hH i b hl)
    oown := fun i b hl => h.oown i b (hH i b hl)
    om := fun i b hl => h.om i b (hH i b hl)
    inj := fun i j bi bj hi hj hne => h.inj i j bi bj (hH i bi hi) (hH j bj hj) hne }

theorem Rel.drw (h : Rel Old wi K m S H w) (k : Nat) : Rel Old wi K m S H (drw w k) :=
  { os := h.os, tape := h.tape, output := h.output, size := h.size, old := h.old, olt := h.olt, oown := h.oown, om := h.om, kb := h.kb, inS := h.inS, pin := h.pin, pinS := h.pinS, inj := h.inj
    own := fun i b hl => (h.own i b hl).mono (fun _ _ => rfl) (fun _ _ => rfl) (fun _ hi => hi) (fun _ _ => rfl) (h.inS i b hl) }

theorem BR.lt_size {i : Nat} {b : Blk} (h : BR K w m S i b) : (m i).blk < w.heap.size := by
  obtain ⟨cur, h1, _⟩ := h.ex
  rcases Nat.lt_or_ge (m i).blk w.heap.size with hlt | hge
  · exact hlt
  · rw [Array.getElem?_eq_none hge] at h1; cases h1

def updL (m : Nat → Loc) (n : Nat) (l : Loc) : Nat → Loc := fun i => if i = n then l else m i
theorem updL_same (m : Nat → Loc) (n : Nat) (l : Loc) : updL m n l n = l := by simp [updL]
theorem updL_ne (m : Nat → Loc) {n i : Nat} (l : Loc) (h : i ≠ n) : updL m n l i = m i := by simp [updL, h]

/-- a new block of cells -/
theorem Rel.new (h : Rel Old wi K m S H w) {n : Nat} (hn : ¬ S n) (b : Blk) (cap : Nat) (cur : Array Value) (hcap : b.rows.length ≤ cap) (hcm : cap ≤ maxLen) (hpv : b.pl = true → ∀ (r : Nat) (row : List AV), b.rows[r]? = some row → ∀ (j : Nat) (cv : AV), row[j]? = some cv → isV cv = true) (hsz : cur.size = cap * b.size)
    (hv : ∀ (r : Nat) (row : List AV), b.rows[r]? = some row → row.length = b.size ∧ ∀ (j : Nat) (cv : AV), row[j]? = some cv → ∃ x, cur[r * b.size + j]? = some x ∧ x.oneCell' = true ∧ VR K w m (fun i => S i ∧ b.pl = false) cv x) :
    Rel Old wi K (updL m n ⟨w.heap.size, cap, b.size, false⟩) (addS S n (n + 1)) ((n, b) :: H) (w.alloc (.cells cur b.ty)) := by
  have hm : ∀ i, S i → updL m n ⟨w.heap.size, cap, b.size, false⟩ i = m i := fun i hi => updL_ne _ _ (fun e => hn (e ▸ hi))
  have hk : ∀ k, k < w.heap.size → (w.alloc (.cells cur b.ty)).heap[k]? = w.heap[k]? := fun k hk => Below.heap_alloc _ _ _ hk
  have hsize : (w.alloc (.cells cur b.ty)).heap.size = w.heap.size + 1 := by simp
  have old : ∀ i bi, i ≠ n → look ((n, b) :: H) i = some bi → look H i = some bi := fun i bi hne hl => by
    simp only [look_cons] at hl
    rwa [if_neg (fun e => hne e.symm)] at hl
  refine { os := h.os, tape := h.tape, output := h.output, size := by rw [hsize]; have := h.size; omega, old := fun k ho => by rw [hk k (h.olt k ho)]; exact h.old k ho, olt := fun k ho => by rw [hsize]; have := h.olt k ho; omega, oown := ?_, om := ?_, kb := fun k hkk => by rw [hsize]; have := h.kb k hkk; omega, pin := fun i l hp => (hm i (h.pinS i l hp)).trans (h.pin i l hp), pinS := fun i l hp => .inl (h.pinS i l hp), inS := ?_, own := ?_, inj := ?_ }
  · intro i bi hl
    by_cases hi : i = n
    · subst hi; rw [updL_same]; exact fun _ ho => Nat.lt_irrefl _ (h.olt _ ho)
    · rw [updL_ne _ _ hi]; exact h.oown i bi (old i bi hi hl)
  · intro i bi hl
    by_cases hi : i = n
    · subst hi; rw [updL_same]; intro h; cases h
    · rw [updL_ne _ _ hi]; exact h.om i bi (old i bi hi hl)
  · intro i bi hl
    by_cases hi : i = n
    · subst hi; exact .inr ⟨Nat.le_refl _, Nat.lt_succ_self _⟩
    · exact .inl (h.inS i bi (old i bi hi hl))
  · intro i bi hl
    by_cases hi : i = n
    · subst hi
      simp only [look_cons, if_true, Option.some.injEq] at hl
      subst hl
      refine .inr ⟨by rw [updL_same], ?_⟩
      refine ⟨by rw [updL_same]; exact fun hc => Nat.lt_irrefl _ (h.kb _ hc), by rw [updL_same], by rw [updL_same]; exact hcap, by rw [updL_same]; exact hcm, hpv, cur, by rw [updL_same]; exact heap_alloc_new w _, by rw [updL_same]; exact hsz, fun r row hr => ⟨(hv r row hr).1, fun j cv hj => ?_⟩⟩
      obtain ⟨x, hx, hone, hvr⟩ := (hv r row hr).2 j cv hj
      exact ⟨x, hx, hone, hvr.mono (fun _ hk => hk) (fun k hkk => hk k (h.kb k hkk)) (fun i hi => ⟨.inl hi.1, hi.2⟩) (fun i hi => hm i hi.1)⟩
    · have hl' := old i bi hi hl
      exact (h.own i bi hl').mono (fun k hkk => hk k (h.kb k hkk)) (fun _ hb => hk _ hb.lt_size) (fun i hi => .inl hi) hm (h.inS i bi hl')
  · intro i j bi bj hi hj hne
    by_cases hin : i = n
    · subst hin
      rw [updL_same, updL_ne _ _ (fun e => hne e.symm)]
      intro _ hp
      have := ((h.own j bj (old j bj (fun e => hne e.symm) hj)).br hp).lt_size
      simp only [ne_eq]
      omega
    · by_cases hjn : j = n
      · subst hjn
        rw [updL_same, updL_ne _ _ hne]
        intro hp _
        have := ((h.own i bi (old i bi hne hi)).br hp).lt_size
        simp only [ne_eq]
        omega
      · rw [updL_ne _ _ hin, updL_ne _ _ hjn]
        exact h.inj i j bi bj (old i bi hin hi) (old j bj hjn hj) hne

/-- one block of the call's own has turned, nothing else -/
theorem Rel.write (h : Rel Old wi K m S H w) {i : Nat} {b b' : Blk} (hl : look H i = some b) (hph : (m i).ph = false) (cur' : Array Value) (hty : b'.ty = b.ty) (hbs : b'.size = b.size)
    (hos : w'.os = w.os) (htape : w'.tape = w.tape) (hout : w'.output = w.output) (hsize : w'.heap.size = w.heap.size)
    (hne : ∀ k, k ≠ (m i).blk → w'.heap[k]? = w.heap[k]?) (heq : w'.heap[(m i).blk]? = some (.cells cur' b.ty (0, 0)))
    (hcap : b'.rows.length ≤ (m i).cap) (hpv : b'.pl = true → ∀ (r : Nat) (row : List AV), b'.rows[r]? = some row → ∀ (j : Nat) (cv : AV), row[j]? = some cv → isV cv = true) (hsz : cur'.size = (m i).cap * b.size)
    (hv : ∀ (r : Nat) (row : List AV), b'.rows[r]? = some row → row.length = b.size ∧ ∀ (j : Nat) (cv : AV), row[j]? = some cv → ∃ x, cur'[r * b.size + j]? = some x ∧ x.oneCell' = true ∧ VR K w m (fun i => S i ∧ b'.pl = false) cv x) :
    Rel Old wi K m S ((i, b') :: H) w' := by
  have hbr := (h.own i b hl).br hph
  have nk := hbr.nk
  have hk : ∀ k, K k → w'.heap[k]? = w.heap[k]? := fun k hkk => hne k (fun e => nk (e ▸ hkk))
  have old : ∀ j bj, j ≠ i → look ((i, b') :: H) j = some bj → look H j = some bj := fun j bj hne hl => by
    simp only [look_cons] at hl
    rwa [if_neg (fun e => hne e.symm)] at hl
  have any : ∀ j bj, look ((i, b') :: H) j = some bj → ∃ bj', look H j = some bj' := fun j bj hj => by
    by_cases hji : j = i
    · subst hji; exact ⟨b, hl⟩
    · exact ⟨bj, old j bj hji hj⟩
  refine { os := hos.trans h.os, tape := htape.trans h.tape, output := hout.trans h.output, size := by rw [hsize]; exact h.size, old := fun k ho => (hne k (fun e => h.oown i b hl hph (e ▸ ho))).trans (h.old k ho), olt := fun k ho => by rw [hsize]; exact h.olt k ho, oown := fun j bj hj => by obtain ⟨bj', hj'⟩ := any j bj hj; exact h.oown j bj' hj', om := fun j bj hj => ?_, kb := fun k hkk => by rw [hsize]; exact h.kb k hkk, pin := h.pin, pinS := h.pinS, inS := ?_, own := ?_, inj := ?_ }
  · by_cases hji : j = i
    · subst hji; exact fun hp => by rw [hph] at hp; cases hp
    · exact h.om j bj (old j bj hji hj)
  · intro j bj hj
    obtain ⟨bj', hj'⟩ := any j bj hj
    exact h.inS j bj' hj'
  · intro j bj hj
    by_cases hji : j = i
    · subst hji
      simp only [look_cons, if_true, Option.some.injEq] at hj
      subst hj
      refine .inr ⟨hph, ?_⟩
      refine ⟨nk, by rw [hbs]; exact hbr.sz, hcap, hbr.capm, hpv, cur', by rw [hty]; exact heq, by rw [hbs]; exact hsz, fun r row hr => ⟨by rw [hbs]; exact (hv r row hr).1, fun k cv hj => ?_⟩⟩
      obtain ⟨x, hx, hone, hvr⟩ := (hv r row hr).2 k cv hj
      exact ⟨x, by rw [hbs]; exact hx, hone, hvr.mono (fun _ hk => hk) hk (fun _ hi => hi) (fun _ _ => rfl)⟩
    · have hl' := old j bj hji hj
      exact (h.own j bj hl').mono hk (fun hp _ => hne _ (h.inj j i bj b hl' hl hji hp hph)) (fun _ hi => hi) (fun _ _ => rfl) (h.inS j bj hl')
  · intro j k bj bk hj hk hne
    obtain ⟨bj', hj'⟩ := any j bj hj
    obtain ⟨bk', hk'⟩ := any k bk hk
    exact h.inj j k bj' bk' hj' hk' hne
end

/-- an operation that leaves the world alone -/
theorem Step.still {P : Program} {o : Oper} {N : Nat} {T : Tp} {H : Hp} {n : Nat} {v : AV}
    (h : ∀ (Old : Nat → Prop) (wi : WI) (K : Nat → Prop) (m : Nat → Loc) (S : Nat → Prop) (a : Act) (w : World), Rel Old wi K m S H w → TRel K w m S N T a →
      ∃ r, (execOp a.eval o).run P w = .ok (.value r) w ∧ VR K w m S v r) : Step P o N T H n v H n true := by
  refine ⟨Nat.le_refl _, fun Old wi K m S a w hS hr ht next Q hn => ?_⟩
  obtain ⟨r, h1, h2⟩ := h Old wi K m S a w hr ht
  unfold Oper.wp
  rw [h1]
  have hm : ∀ i, S i → addS S n n i := fun i hi => .inl hi
  exact hn r w m K ⟨fun _ _ => rfl, GK.refl _ _, hr.monoS hm (fun _ _ => rfl), h2.mono (fun _ hk => hk) (fun _ _ => rfl) hm (fun _ _ => rfl), fun _ _ => rfl,
    fun _ => ⟨Below.refl _ _, fun i h1 h2 => absurd h2 (by omega), fun _ h _ => h⟩⟩

/-- an operation that makes one block of cells -/
theorem Step.new {P : Program} {o : Oper} {N : Nat} {T : Tp} {H : Hp} {n : Nat} {v : AV} (b : Blk) (hpv : b.pl = true → ∀ (r : Nat) (row : List AV), b.rows[r]? = some row → ∀ (j : Nat) (cv : AV), row[j]? = some cv → isV cv = true)
    (h : ∀ (Old : Nat → Prop) (wi : WI) (K : Nat → Prop) (m : Nat → Loc) (S : Nat → Prop) (a : Act) (w : World), Rel Old wi K m S H w → TRel K w m S N T a →
      ∃ (r : Value) (d cap : Nat) (cur : Array Value), (execOp a.eval o).run P w = .ok (.value r) ((drw w d).alloc (.cells cur b.ty)) ∧ b.rows.length ≤ cap ∧ cap ≤ maxLen ∧ cur.size = cap * b.size ∧
        (∀ (r : Nat) (row : List AV), b.rows[r]? = some row → row.length = b.size ∧ ∀ (j : Nat) (cv : AV), row[j]? = some cv → ∃ x, cur[r * b.size + j]? = some x ∧ x.oneCell' = true ∧ VR K w m (fun i => S i ∧ b.pl = false) cv x) ∧
        ∀ m' w', m' n = ⟨w.heap.size, cap, b.size, false⟩ → VR K w' m' (addS S n (n + 1)) v r) : Step P o N T H n v ((n, b) :: H) (n + 1) true := by
  refine ⟨Nat.le_succ _, fun Old wi K m S a w hS hr ht next Q hn => ?_⟩
  obtain ⟨r, d, cap, cur, h1, h2, hcm, h3, h4, h5⟩ := h Old wi K m S a w hr ht
  unfold Oper.wp
  rw [h1]
  have hns : ¬ S n := hS n (Nat.le_refl _) (Nat.lt_succ_self _)
  have hrel := (hr.drw d).new hns b cap cur h2 hcm hpv h3 (fun r row hr => ⟨(h4 r row hr).1, fun j cv hj => by
    obtain ⟨x, hx, hone, hvr⟩ := (h4 r row hr).2 j cv hj
    exact ⟨x, hx, hone, hvr.mono (fun _ hk => hk) (fun _ _ => rfl) (fun _ hi => hi) (fun _ _ => rfl)⟩⟩)
  refine hn r _ _ K ⟨fun i hi => updL_ne _ _ (fun e => hi (by omega)), GK.refl _ _, hrel, h5 _ _ (updL_same _ _ _), fun k hk => ?_, fun _ => ⟨?_, fun i hi hi' _ => ?_, fun _ h _ => h⟩⟩
  · exact Below.heap_alloc _ _ _ (hr.kb k hk)
  · exact (below_drw (Below.refl _ w) d).alloc (Nat.le_refl _) _
  · have : i = n := by omega
    subst this
    rw [updL_same]
    exact Nat.le_refl _

end Go.Proofs.Ytglfcaioapdiaaa.Aw
