/-
  Values as trees beside the machine's: abstract values, what they say of the machine's, and the state of a function's run. No function of the program in sight.
-/
import Derived.WalkKit
import Derived.Below
import Derived.Orders
import Derived.Laws.Cells
import Derived.Laws.CopyRow
import Derived.Laws.Rows
import Derived.Laws.Tables
import Derived.ProofKit
namespace Go.Proofs.Ytglfcaioapdiaaa.Aw
open Go Go.RowKit

inductive AV where
  | v (x : Value)
  | dsl (size : Nat) (rows : List (List AV))
  | dptr (cells : List AV)
  | om (id : Nat) (D : List (Value × Value))   -- a map of the call's own
  | ptr (id row col : Nat)
  | sl (id row len : Nat)
  | sx (id row len cap : Nat)
  | agg (cs : List AV)
  | tup (vs : List AV)
  | fn (f : FuncId) (caps : List AV)
  | emp

structure Blk where
  ty : TypeId
  size : Nat
  pl : Bool
  rows : List (List AV)

structure Loc where
  blk : Nat
  cap : Nat
  size : Nat
  ph : Bool   -- no block at all: the slice is nil

abbrev Hp := List (Nat × Blk)
abbrev Tp := List (Nat × AV)

def look {β : Type} : List (Nat × β) → Nat → Option β
  | [], _ => none
  | (i, b) :: l, k => match Nat.beq i k with
    | true => some b
    | false => look l k
theorem look_nil {β : Type} (k : Nat) : look ([] : List (Nat × β)) k = none := rfl
theorem look_cons {β : Type} (i : Nat) (b : β) (l : List (Nat × β)) (k : Nat) : look ((i, b) :: l) k = if i = k then some b else look l k := by
  show (match Nat.beq i k with | true => some b | false => look l k) = _
  by_cases h : i = k
  · subst h; rw [Nat.beq_refl, if_pos rfl]
  · have : Nat.beq i k = false := by
      cases hb : Nat.beq i k
      · rfl
      · exact absurd (Nat.eq_of_beq_eq_true hb) h
    rw [this, if_neg h]
def del {β : Type} : List (Nat × β) → Nat → List (Nat × β)
  | [], _ => []
  | (i, b) :: l, k => if i = k then del l k else (i, b) :: del l k
theorem look_del_same {β : Type} (l : List (Nat × β)) (k : Nat) : look (del l k) k = none := by
  induction l with
  | nil => rfl
  | cons p l ih =>
    obtain ⟨i, b⟩ := p
    by_cases h : i = k
    · simp [del, h, ih]
    · simp [del, h, look_cons, ih]
theorem look_del_ne {β : Type} (l : List (Nat × β)) {k j : Nat} (h : j ≠ k) : look (del l k) j = look l j := by
  induction l with
  | nil => rfl
  | cons p l ih =>
    obtain ⟨i, b⟩ := p
    by_cases hi : i = k
    · subst hi
      have : ¬ i = j := fun e => h e.symm
      simp [del, look_cons, this, ih]
    · simp [del, hi, look_cons, ih]
theorem look_append {β : Type} (l l' : List (Nat × β)) (k : Nat) : look (l ++ l') k = (look l k).or (look l' k) := by
  induction l with
  | nil => simp [look_nil]
  | cons p l ih =>
    obtain ⟨i, b⟩ := p
    by_cases h : i = k <;> simp [look_cons, h, ih]

def cellsA : AV → List AV
  | .agg cs => cs
  | .v (.agg xs) => xs.toList.map .v
  | x => [x]
def isV : AV → Bool
  | .v _ => true
  | _ => false
def AV.one : AV → Bool
  | .agg _ | .tup _ => false
  | .v x => x.oneCell'
  | _ => true

def NoS : Nat → Prop := fun _ => False
inductive VR (K : Nat → Prop) (w : World) (m : Nat → Loc) : (S : Nat → Prop) → AV → Value → Prop
  | v (S : Nat → Prop) (x : Value) : VR K w m S (.v x) x
  | dsl0 (S : Nat → Prop) (size : Nat) (a : Option Addr) (c : Nat) : VR K w m S (.dsl size []) (.slice a 0 c)
  | dsl (S : Nat → Prop) (size : Nat) (rows : List (List AV)) (n b o c : Nat) (xs : Nat → Nat → Value) (hn : n = rows.length) (hc : rows.length ≤ c) (hK : K b)
      (hl : ∀ (r : Nat) (row : List AV), rows[r]? = some row → row.length = size)
      (hx : ∀ (r : Nat) (row : List AV) (j : Nat) (cv : AV), rows[r]? = some row → row[j]? = some cv → w.cell? ⟨b, o + r * size + j, none⟩ = some (xs r j) ∧ (xs r j).oneCell' = true)
      (hv : ∀ (r : Nat) (row : List AV) (j : Nat) (cv : AV), rows[r]? = some row → row[j]? = some cv → VR K w m NoS cv (xs r j)) :
      VR K w m S (.dsl size rows) (.slice (some ⟨b, o, none⟩) n c)
  | dptr (S : Nat → Prop) (cells : List AV) (b o : Nat) (xs : Nat → Value) (hK : K b)
      (hx : ∀ (j : Nat) (cv : AV), cells[j]? = some cv → w.cell? ⟨b, o + j, none⟩ = some (xs j) ∧ (xs j).oneCell' = true)
      (hv : ∀ (j : Nat) (cv : AV), cells[j]? = some cv → VR K w m NoS cv (xs j)) : VR K w m S (.dptr cells) (.pointer (some ⟨b, o, none⟩))
  | om (S : Nat → Prop) (id : Nat) (D : List (Value × Value)) (es : Array MapEntry) (c b : Nat) (hS : S id) (hp : (m id).ph = true) (hq : (m id).cap = 1) (hb : (m id).blk = b) (hK : K b) (ho : w.heap[b]? = some (.map es c)) (hD : es.toList.map (fun e => (e.key, e.val)) = D) : VR K w m S (.om id D) (.map (some b))
  | ptr (S : Nat → Prop) (id row col o : Nat) (hS : S id) (ho : o = row * (m id).size + col) : VR K w m S (.ptr id row col) (.pointer (some ⟨(m id).blk, o, none⟩))
  | sl (S : Nat → Prop) (id row len o c : Nat) (hS : S id) (hp : (m id).ph = false) (ho : o = row * (m id).size) (hc : c = (m id).cap - row) : VR K w m S (.sl id row len) (.slice (some ⟨(m id).blk, o, none⟩) len c)
  | sl0 (S : Nat → Prop) (id row : Nat) (a : Option Addr) (hS : S id) : VR K w m S (.sl id row 0) (.slice a 0 0)
  | sx (S : Nat → Prop) (id row len cap o c : Nat) (hS : S id) (hp : (m id).ph = false) (ho : o = row * (m id).size) (hcap : (m id).cap = cap) (hc : c = cap - row) : VR K w m S (.sx id row len cap) (.slice (some ⟨(m id).blk, o, none⟩) len c)
  | agg (S : Nat → Prop) (cs : List AV) (xs : List Value) (hl : xs.length = cs.length) (hv : ∀ (j : Nat) (cv : AV) (x : Value), cs[j]? = some cv → xs[j]? = some x → VR K w m S cv x) : VR K w m S (.agg cs) (.agg xs.toArray)
  | tup (S : Nat → Prop) (cs : List AV) (xs : List Value) (hl : xs.length = cs.length) (hv : ∀ (j : Nat) (cv : AV) (x : Value), cs[j]? = some cv → xs[j]? = some x → VR K w m S cv x) : VR K w m S (.tup cs) (.tuple xs.toArray)
  | fn (S : Nat → Prop) (f : FuncId) (cs : List AV) (xs : List Value) (hl : xs.length = cs.length) (hv : ∀ (j : Nat) (cv : AV) (x : Value), cs[j]? = some cv → xs[j]? = some x → VR K w m S cv x) : VR K w m S (.fn f cs) (.func (.func f) #[] xs.toArray)
  | emp (S : Nat → Prop) (a : Option Addr) : VR K w m S .emp (.slice a 0 0)

section
variable {K K' : Nat → Prop} {w w' : World} {m m' : Nat → Loc} {S S' : Nat → Prop}
theorem VR.mono {av : AV} {x : Value} (h : VR K w m S av x) (hK : ∀ k, K k → K' k) (hw : ∀ k, K k → w'.heap[k]? = w.heap[k]?)
    (hS : ∀ i, S i → S' i) (hm : ∀ i, S i → m' i = m i) : VR K' w' m' S' av x := by
  induction h generalizing S' with
  | v S x => exact .v _ x
  | dsl0 S size a c => exact .dsl0 _ size a c
  | dsl S size rows n b o c xs hn hc hk hl hx hv ih =>
    exact .dsl _ size rows n b o c xs hn hc (hK b hk) hl (fun r row j cv h1 h2 => by rw [World.cell?_of_block (w := w) (hw b hk)]; exact hx r row j cv h1 h2)
      (fun r row j cv h1 h2 => ih r row j cv h1 h2 (fun _ h => h.elim) (fun _ h => h.elim))
  | dptr S cells b o xs hk hx hv ih =>
    exact .dptr _ cells b o xs (hK b hk) (fun j cv h1 => by rw [World.cell?_of_block (w := w) (hw b hk)]; exact hx j cv h1)
      (fun j cv h1 => ih j cv h1 (fun _ h => h.elim) (fun _ h => h.elim))
  | om S id D es c b hs hp hq hb hk ho hD => exact .om _ id D es c b (hS id hs) (by rw [hm id hs]; exact hp) (by rw [hm id hs]; exact hq) (by rw [hm id hs]; exact hb) (hK _ hk) ((hw _ hk).trans ho) hD
  | ptr S id row col o hs ho => rw [← hm id hs]; exact .ptr _ id row col o (hS id hs) (by rw [hm id hs]; exact ho)
  | sl S id row len o c hs hp ho hc => rw [← hm id hs]; exact .sl _ id row len o c (hS id hs) (by rw [hm id hs]; exact hp) (by rw [hm id hs]; exact ho) (by rw [hm id hs]; exact hc)
  | sl0 S id row a hs => exact .sl0 _ id row a (hS id hs)
  | sx S id row len cap o c hs hp ho hcap hc => rw [← hm id hs]; exact .sx _ id row len cap o c (hS id hs) (by rw [hm id hs]; exact hp) (by rw [hm id hs]; exact ho) (by rw [hm id hs]; exact hcap) hc
  | agg S cs xs hl hv ih => exact .agg _ cs xs hl (fun j cv x h1 h2 => ih j cv x h1 h2 hS hm)
  | tup S cs xs hl hv ih => exact .tup _ cs xs hl (fun j cv x h1 h2 => ih j cv x h1 h2 hS hm)
  | fn S f cs xs hl hv ih => exact .fn _ f cs xs hl (fun j cv x h1 h2 => ih j cv x h1 h2 hS hm)
  | emp S a => exact .emp _ a

theorem VR.cells {av : AV} {x : Value} (h : VR K w m S av x) : x.cells.toList.length = (cellsA av).length ∧ ∀ (j : Nat) (cv : AV) (y : Value), (cellsA av)[j]? = some cv → x.cells.toList[j]? = some y → VR K w m S cv y := by
  have one : ∀ {av : AV} {x : Value}, cellsA av = [av] → x.cells = #[x] → VR K w m S av x → x.cells.toList.length = (cellsA av).length ∧ ∀ (j : Nat) (cv : AV) (y : Value), (cellsA av)[j]? = some cv → x.cells.toList[j]? = some y → VR K w m S cv y := by
    intro av x h1 h2 hv
    rw [h1, h2]
    refine ⟨rfl, fun j cv y => ?_⟩
    cases j with
    | zero => simp; rintro rfl rfl; exact hv
    | succ j => simp
  cases h with
  | v _ x =>
    cases x with
    | agg xs => refine ⟨by simp [Value.cells, cellsA], fun j cv y h1 h2 => ?_⟩
                simp only [cellsA, List.getElem?_map, Value.cells] at h1 h2
                rw [h2] at h1
                simp at h1
                subst h1
                exact .v _ y
    | _ => exact one rfl rfl (.v _ _)
  | agg _ cs xs hl hv => exact ⟨by simpa [Value.cells, cellsA] using hl, fun j cv y h1 h2 => hv j cv y h1 (by simpa [Value.cells] using h2)⟩
  | dsl0 => exact one rfl rfl (.dsl0 _ _ _ _)
  | dsl _ size rows n b o c xs hn hc hk hl hx hv => exact one rfl rfl (.dsl _ size rows n b o c xs hn hc hk hl hx hv)
  | dptr _ cells b o xs hk hx hv => exact one rfl rfl (.dptr _ cells b o xs hk hx hv)
  | om _ id D es c b hs hp hq hb hk ho hD => exact one rfl rfl (.om _ id D es c b hs hp hq hb hk ho hD)
  | ptr _ id row col o hs ho => exact one rfl rfl (.ptr _ id row col o hs ho)
  | sl _ id row len o c hs hp ho hc => exact one rfl rfl (.sl _ id row len o c hs hp ho hc)
  | sl0 _ id row a hs => exact one rfl rfl (.sl0 _ id row a hs)
  | sx _ id row len cap o c hs hp ho hcap hc => exact one rfl rfl (.sx _ id row len cap o c hs hp ho hcap hc)
  | tup _ cs xs hl hv => exact one rfl rfl (.tup _ cs xs hl hv)
  | fn _ f cs xs hl hv => exact one rfl rfl (.fn _ f cs xs hl hv)
  | emp _ a => exact one rfl rfl (.emp _ a)

theorem VR.one {av : AV} {x : Value} (h : VR K w m S av x) (h1 : av.one = true) : x.oneCell' = true := by
  cases h <;> first | exact h1 | rfl | assumption | (simp [AV.one] at h1)
end

/-- where a run began: the world, and where the blocks lay that it was given -/
structure WI where
  w : World
  pin : Nat → Option Loc

/-- what a block of the call's own holds -/
structure BR (K : Nat → Prop) (w : World) (m : Nat → Loc) (S : Nat → Prop) (i : Nat) (b : Blk) : Prop where
  nk : ¬ K (m i).blk
  sz : (m i).size = b.size
  cap : b.rows.length ≤ (m i).cap
  capm : (m i).cap ≤ maxLen
  plv : b.pl = true → ∀ (r : Nat) (row : List AV), b.rows[r]? = some row → ∀ (j : Nat) (cv : AV), row[j]? = some cv → isV cv = true
  ex : ∃ cur : Array Value, w.heap[(m i).blk]? = some (.cells cur b.ty (0, 0)) ∧ cur.size = (m i).cap * b.size ∧
    ∀ (r : Nat) (row : List AV), b.rows[r]? = some row → row.length = b.size ∧ ∀ (j : Nat) (cv : AV), row[j]? = some cv → ∃ x, cur[r * b.size + j]? = some x ∧ x.oneCell' = true ∧ VR K w m (fun i => S i ∧ b.pl = false) cv x

/-- a block that the call owns: or none yet, for a nil slice -/
def OB (K : Nat → Prop) (w : World) (m : Nat → Loc) (S : Nat → Prop) (i : Nat) (b : Blk) : Prop := ((m i).ph = true ∧ b.rows = []) ∨ ((m i).ph = false ∧ BR K w m S i b)

structure Rel (Old : Nat → Prop) (wi : WI) (K : Nat → Prop) (m : Nat → Loc) (S : Nat → Prop) (H : Hp) (w : World) : Prop where
  os : w.os = wi.w.os
  tape : w.tape = wi.w.tape
  output : w.output = wi.w.output
  size : wi.w.heap.size ≤ w.heap.size
  old : ∀ k, Old k → w.heap[k]? = wi.w.heap[k]?
  olt : ∀ k, Old k → k < w.heap.size
  oown : ∀ i b, look H i = some b → (m i).ph = false → ¬ Old (m i).blk
  om : ∀ i b, look H i = some b → (m i).ph = true → (m i).cap = 1 → b.size = 1000003 ∧ K (m i).blk ∧ ¬ Old (m i).blk   -- a map of the call's own
  kb : ∀ k, K k → k < w.heap.size
  inS : ∀ i b, look H i = some b → S i
  pin : ∀ i l, wi.pin i = some l → m i = l
  pinS : ∀ i l, wi.pin i = some l → S i
  own : ∀ i b, look H i = some b → OB K w m S i b
  inj : ∀ i j bi bj, look H i = some bi → look H j = some bj → i ≠ j → (m i).ph = false → (m j).ph = false → (m i).blk ≠ (m j).blk

/-- more may be read only: nothing of the old -/
def GK (Old K K' : Nat → Prop) : Prop := (∀ k, K k → K' k) ∧ ∀ k, K' k → Old k → K k
theorem GK.refl (Old K : Nat → Prop) : GK Old K K := ⟨fun _ h => h, fun _ h _ => h⟩
theorem GK.trans {Old K K' K'' : Nat → Prop} (h : GK Old K K') (h' : GK Old K' K'') : GK Old K K'' := ⟨fun k hk => h'.1 k (h.1 k hk), fun k hk ho => h.2 k (h'.2 k hk ho) ho⟩

structure TRel (K : Nat → Prop) (w : World) (m : Nat → Loc) (S : Nat → Prop) (N : Nat) (T : Tp) (a : Act) : Prop where
  dn : a.defers = []
  sz : a.tmps.size = N
  tm : ∀ t av, look T t = some av → VR K w m S av (a.tmps.getD t undef)

def evalA (T : Tp) : Operand → Option AV
  | .tmp t => look T t
  | .const v => some (.v v)
  | .func f => some (.fn f [])
  | .global _ => none
theorem TRel.eval {K : Nat → Prop} {w : World} {m : Nat → Loc} {S : Nat → Prop} {N : Nat} {T : Tp} {a : Act} (h : TRel K w m S N T a) {x : Operand} {av : AV} (he : evalA T x = some av) : VR K w m S av (a.eval x) := by
  cases x with
  | tmp t => exact h.tm t av he
  | const v => simp only [evalA, Option.some.injEq] at he; subst he; exact .v _ v
  | func f => simp only [evalA, Option.some.injEq] at he; subst he; exact .fn _ f [] [] rfl (by simp)
  | global g => simp [evalA] at he

end Go.Proofs.Ytglfcaioapdiaaa.Aw
