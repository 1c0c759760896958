/-
  What the law FnStatistics rests on, part 1.
-/
import Derived.WalkKit
import Derived.Below
import Derived.Orders
import Derived.Laws.Cells
import Derived.Laws.CopyRow
import Derived.Laws.Rows
import Derived.Laws.Tables
import Derived.ProofKit
import Derived.OrdersIn
import Derived.TacticsIn
import Derived.Test.YtljpgbgokjiamaaProg
import Derived.KernelRfl
import Derived.Deep.AppendLies
import Derived.WideShapes
import Derived.Laws.Small
import Derived.Laws.MakeOwn
import Derived.Laws.Slices
import Derived.Laws.StructEq
import Derived.Deep.AppendSrc
import Derived.Laws.AppendOwn
import Derived.Great.BuildSlice
import Derived.Laws.Shifts
import Derived.Laws.Cover3
import Derived.Laws.BytesString
import Derived.Laws.Externs
import Derived.Lib.Overlaps
import Derived.Lib.AppendZerosOnto
import Derived.IntWalk
import Derived.Test.YtljpgbgokjiamaaRows
import Derived.OpenShut
import Derived.ShutString
import Derived.ChangeOld
import Derived.Deep.Slices
import Derived.WalkSpells
import Derived.WalkLawsBesides
import Derived.BigQuiet
import Derived.Deep.QuietTactic
import Derived.Lib.Hide
import Derived.Shelf.SlGeneric
import Derived.Ground.SlgnProg
import Derived.Shelf.SortG.Plain
import Derived.Shelf.SortG.SortNone
import Derived.Shelf.SlicesG.Reverse
import Derived.Shelf.SlicesE.Reverse
import Derived.Sort.OwnSortedInts
import Derived.MapKept
import Derived.Lib.SlicesCompact
import Derived.Shelf.SlicesG.Turned
import Derived.Shelf.SlicesG.CompactI
import Derived.Shelf.SlicesG.Cells
namespace Go.Proofs.Ytljpgbgokjiamaa.Aw
open Go
def glN : Nat := 0
def Gl (_ : World) : Prop := True
theorem Gl.keep {w w' : World} (_ : Gl w) (_ : ∀ k, k < glN → w'.heap[k]? = w.heap[k]?) : Gl w' := True.intro
theorem Gl.size {w : World} (_ : Gl w) : glN ≤ w.heap.size := Nat.zero_le _
end Go.Proofs.Ytljpgbgokjiamaa.Aw

namespace Go.Proofs.Ytljpgbgokjiamaa.Aw
open Go Go.RowKit
inductive AV where
  | v (x : Value)
  | dsl (size : Nat) (rows : List (List AV))
  | dptr (cells : List AV)
  | om (id : Nat) (D : List (Value × Value))   -- a map of the call's own
  | ptr (id row col : Nat)
  | sl (id row len : Nat)
  | sx (id row len cap : Nat)
  | agg (cs : List AV)
  | tup (vs : List AV)
  | fn (f : FuncId) (caps : List AV)
  | emp
structure Blk where
  ty : TypeId
  size : Nat
  pl : Bool
  rows : List (List AV)
structure Loc where
  blk : Nat
  cap : Nat
  size : Nat
  ph : Bool   -- no block at all: the slice is nil
abbrev Hp := List (Nat × Blk)
abbrev Tp := List (Nat × AV)
def look {β : Type} : List (Nat × β) → Nat → Option β
  | [], _ => none
  | (i, b) :: l, k => match Nat.beq i k with
    | true => some b
    | false => look l k
theorem look_nil {β : Type} (k : Nat) : look ([] : List (Nat × β)) k = none := rfl
theorem look_cons {β : Type} (i : Nat) (b : β) (l : List (Nat × β)) (k : Nat) : look ((i, b) :: l) k = if i = k then some b else look l k := by
  show (match Nat.beq i k with | true => some b | false => look l k) = _
  by_cases h : i = k
  · subst h; rw [Nat.beq_refl, if_pos rfl]
  · have : Nat.beq i k = false := by
      cases hb : Nat.beq i k
      · rfl
      · exact absurd (Nat.eq_of_beq_eq_true hb) h
    rw [this, if_neg h]
def del {β : Type} : List (Nat × β) → Nat → List (Nat × β)
  | [], _ => []
  | (i, b) :: l, k => if i = k then del l k else (i, b) :: del l k
theorem look_del_same {β : Type} (l : List (Nat × β)) (k : Nat) : look (del l k) k = none := by
  induction l with
  | nil => rfl
  | cons p l ih =>
    obtain ⟨i, b⟩ := p
    by_cases h : i = k
    · simp [del, h, ih]
    · simp [del, h, look_cons, ih]
theorem look_del_ne {β : Type} (l : List (Nat × β)) {k j : Nat} (h : j ≠ k) : look (del l k) j = look l j := by
  induction l with
  | nil => rfl
  | cons p l ih =>
    obtain ⟨i, b⟩ := p
    by_cases hi : i = k
    · subst hi
      have : ¬ i = j := fun e => h e.symm
      simp [del, look_cons, this, ih]
    · simp [del, hi, look_cons, ih]
theorem look_append {β : Type} (l l' : List (Nat × β)) (k : Nat) : look (l ++ l') k = (look l k).or (look l' k) := by
  induction l with
  | nil => simp [look_nil]
  | cons p l ih =>
    obtain ⟨i, b⟩ := p
    by_cases h : i = k <;> simp [look_cons, h, ih]
def cellsA : AV → List AV
  | .agg cs => cs
  | .v (.agg xs) => xs.toList.map .v
  | x => [x]
def isV : AV → Bool
  | .v _ => true
  | _ => false
def AV.one : AV → Bool
  | .agg _ | .tup _ => false
  | .v x => x.oneCell'
  | _ => true
def NoS : Nat → Prop := fun _ => False
inductive VR (K : Nat → Prop) (w : World) (m : Nat → Loc) : (S : Nat → Prop) → AV → Value → Prop
  | v (S : Nat → Prop) (x : Value) : VR K w m S (.v x) x
  | dsl0 (S : Nat → Prop) (size : Nat) (a : Option Addr) (c : Nat) : VR K w m S (.dsl size []) (.slice a 0 c)
  | dsl (S : Nat → Prop) (size : Nat) (rows : List (List AV)) (n b o c : Nat) (xs : Nat → Nat → Value) (hn : n = rows.length) (hc : rows.length ≤ c) (hK : K b)
      (hl : ∀ (r : Nat) (row : List AV), rows[r]? = some row → row.length = size)
      (hx : ∀ (r : Nat) (row : List AV) (j : Nat) (cv : AV), rows[r]? = some row → row[j]? = some cv → w.cell? ⟨b, o + r * size + j, none⟩ = some (xs r j) ∧ (xs r j).oneCell' = true)
      (hv : ∀ (r : Nat) (row : List AV) (j : Nat) (cv : AV), rows[r]? = some row → row[j]? = some cv → VR K w m NoS cv (xs r j)) :
      VR K w m S (.dsl size rows) (.slice (some ⟨b, o, none⟩) n c)
  | dptr (S : Nat → Prop) (cells : List AV) (b o : Nat) (xs : Nat → Value) (hK : K b)
      (hx : ∀ (j : Nat) (cv : AV), cells[j]? = some cv → w.cell? ⟨b, o + j, none⟩ = some (xs j) ∧ (xs j).oneCell' = true)
      (hv : ∀ (j : Nat) (cv : AV), cells[j]? = some cv → VR K w m NoS cv (xs j)) : VR K w m S (.dptr cells) (.pointer (some ⟨b, o, none⟩))
  | om (S : Nat → Prop) (id : Nat) (D : List (Value × Value)) (es : Array MapEntry) (c b : Nat) (hS : S id) (hp : (m id).ph = true) (hq : (m id).cap = 1) (hb : (m id).blk = b) (hK : K b) (ho : w.heap[b]? = some (.map es c)) (hD : es.toList.map (fun e => (e.key, e.val)) = D) : VR K w m S (.om id D) (.map (some b))
  | ptr (S : Nat → Prop) (id row col o : Nat) (hS : S id) (ho : o = row * (m id).size + col) : VR K w m S (.ptr id row col) (.pointer (some ⟨(m id).blk, o, none⟩))
  | sl (S : Nat → Prop) (id row len o c : Nat) (hS : S id) (hp : (m id).ph = false) (ho : o = row * (m id).size) (hc : c = (m id).cap - row) : VR K w m S (.sl id row len) (.slice (some ⟨(m id).blk, o, none⟩) len c)
  | sl0 (S : Nat → Prop) (id row : Nat) (a : Option Addr) (hS : S id) : VR K w m S (.sl id row 0) (.slice a 0 0)
  | sx (S : Nat → Prop) (id row len cap o c : Nat) (hS : S id) (hp : (m id).ph = false) (ho : o = row * (m id).size) (hcap : (m id).cap = cap) (hc : c = cap - row) : VR K w m S (.sx id row len cap) (.slice (some ⟨(m id).blk, o, none⟩) len c)
  | agg (S : Nat → Prop) (cs : List AV) (xs : List Value) (hl : xs.length = cs.length) (hv : ∀ (j : Nat) (cv : AV) (x : Value), cs[j]? = some cv → xs[j]? = some x → VR K w m S cv x) : VR K w m S (.agg cs) (.agg xs.toArray)
  | tup (S : Nat → Prop) (cs : List AV) (xs : List Value) (hl : xs.length = cs.length) (hv : ∀ (j : Nat) (cv : AV) (x : Value), cs[j]? = some cv → xs[j]? = some x → VR K w m S cv x) : VR K w m S (.tup cs) (.tuple xs.toArray)
  | fn (S : Nat → Prop) (f : FuncId) (cs : List AV) (xs : List Value) (hl : xs.length = cs.length) (hv : ∀ (j : Nat) (cv : AV) (x : Value), cs[j]? = some cv → xs[j]? = some x → VR K w m S cv x) : VR K w m S (.fn f cs) (.func (.func f) #[] xs.toArray)
  | emp (S : Nat → Prop) (a : Option Addr) : VR K w m S .emp (.slice a 0 0)
section
variable {K K' : Nat → Prop} {w w' : World} {m m' : Nat → Loc} {S S' : Nat → Prop}
theorem VR.mono {av : AV} {x : Value} (h : VR K w m S av x) (hK : ∀ k, K k → K' k) (hw : ∀ k, K k → w'.heap[k]? = w.heap[k]?)
    (hS : ∀ i, S i → S' i) (hm : ∀ i, S i → m' i = m i) : VR K' w' m' S' av x := by
  induction h generalizing S' with
  | v S x => exact .v _ x
  | dsl0 S size a c => exact .dsl0 _ size a c
  | dsl S size rows n b o c xs hn hc hk hl hx hv ih =>
    exact .dsl _ size rows n b o c xs hn hc (hK b hk) hl (fun r row j cv h1 h2 => by rw [World.cell?_of_block (w := w) (hw b hk)]; exact hx r row j cv h1 h2)
      (fun r row j cv h1 h2 => ih r row j cv h1 h2 (fun _ h => h.elim) (fun _ h => h.elim))
  | dptr S cells b o xs hk hx hv ih =>
    exact .dptr _ cells b o xs (hK b hk) (fun j cv h1 => by rw [World.cell?_of_block (w := w) (hw b hk)]; exact hx j cv h1)
      (fun j cv h1 => ih j cv h1 (fun _ h => h.elim) (fun _ h => h.elim))
  | om S id D es c b hs hp hq hb hk ho hD => exact .om _ id D es c b (hS id hs) (by rw [hm id hs]; exact hp) (by rw [hm id hs]; exact hq) (by rw [hm id hs]; exact hb) (hK _ hk) ((hw _ hk).trans ho) hD
  | ptr S id row col o hs ho => rw [← hm id hs]; exact .ptr _ id row col o (hS id hs) (by rw [hm id hs]; exact ho)
  | sl S id row len o c hs hp ho hc => rw [← hm id hs]; exact .sl _ id row len o c (hS id hs) (by rw [hm id hs]; exact hp) (by rw [hm id hs]; exact ho) (by rw [hm id hs]; exact hc)
  | sl0 S id row a hs => exact .sl0 _ id row a (hS id hs)
  | sx S id row len cap o c hs hp ho hcap hc => rw [← hm id hs]; exact .sx _ id row len cap o c (hS id hs) (by rw [hm id hs]; exact hp) (by rw [hm id hs]; exact ho) (by rw [hm id hs]; exact hcap) hc
  | agg S cs xs hl hv ih => exact .agg _ cs xs hl (fun j cv x h1 h2 => ih j cv x h1 h2 hS hm)
  | tup S cs xs hl hv ih => exact .tup _ cs xs hl (fun j cv x h1 h2 => ih j cv x h1 h2 hS hm)
  | fn S f cs xs hl hv ih => exact .fn _ f cs xs hl (fun j cv x h1 h2 => ih j cv x h1 h2 hS hm)
  | emp S a => exact .emp _ a
theorem VR.cells {av : AV} {x : Value} (h : VR K w m S av x) : x.cells.toList.length = (cellsA av).length ∧ ∀ (j : Nat) (cv : AV) (y : Value), (cellsA av)[j]? = some cv → x.cells.toList[j]? = some y → VR K w m S cv y := by
  have one : ∀ {av : AV} {x : Value}, cellsA av = [av] → x.cells = #[x] → VR K w m S av x → x.cells.toList.length = (cellsA av).length ∧ ∀ (j : Nat) (cv : AV) (y : Value), (cellsA av)[j]? = some cv → x.cells.toList[j]? = some y → VR K w m S cv y := by
    intro av x h1 h2 hv
    rw [h1, h2]
    refine ⟨rfl, fun j cv y => ?_⟩
    cases j with
    | zero => simp; rintro rfl rfl; exact hv
    | succ j => simp
  cases h with
  | v _ x =>
    cases x with
    | agg xs => refine ⟨by simp [Value.cells, cellsA], fun j cv y h1 h2 => ?_⟩
                simp only [cellsA, List.getElem?_map, Value.cells] at h1 h2
                rw [h2] at h1
                simp at h1
                subst h1
                exact .v _ y
    | _ => exact one rfl rfl (.v _ _)
  | agg _ cs xs hl hv => exact ⟨by simpa [Value.cells, cellsA] using hl, fun j cv y h1 h2 => hv j cv y h1 (by simpa [Value.cells] using h2)⟩
  | dsl0 => exact one rfl rfl (.dsl0 _ _ _ _)
  | dsl _ size rows n b o c xs hn hc hk hl hx hv => exact one rfl rfl (.dsl _ size rows n b o c xs hn hc hk hl hx hv)
  | dptr _ cells b o xs hk hx hv => exact one rfl rfl (.dptr _ cells b o xs hk hx hv)
  | om _ id D es c b hs hp hq hb hk ho hD => exact one rfl rfl (.om _ id D es c b hs hp hq hb hk ho hD)
  | ptr _ id row col o hs ho => exact one rfl rfl (.ptr _ id row col o hs ho)
  | sl _ id row len o c hs hp ho hc => exact one rfl rfl (.sl _ id row len o c hs hp ho hc)
  | sl0 _ id row a hs => exact one rfl rfl (.sl0 _ id row a hs)
  | sx _ id row len cap o c hs hp ho hcap hc => exact one rfl rfl (.sx _ id row len cap o c hs hp ho hcap hc)
  | tup _ cs xs hl hv => exact one rfl rfl (.tup _ cs xs hl hv)
  | fn _ f cs xs hl hv => exact one rfl rfl (.fn _ f cs xs hl hv)
  | emp _ a => exact one rfl rfl (.emp _ a)
theorem VR.one {av : AV} {x : Value} (h : VR K w m S av x) (h1 : av.one = true) : x.oneCell' = true := by
  cases h <;> first | exact h1 | rfl | assumption | (simp [AV.one] at h1)
end
structure WI (Old : Nat → Prop) where
  w : World
  pin : Nat → Option Loc
  gl : Gl w
  go : ∀ k, k < glN → Old k
structure BR (K : Nat → Prop) (w : World) (m : Nat → Loc) (S : Nat → Prop) (i : Nat) (b : Blk) : Prop where
  nk : ¬ K (m i).blk
  sz : (m i).size = b.size
  cap : b.rows.length ≤ (m i).cap
  capm : (m i).cap ≤ maxLen
  plv : b.pl = true → ∀ (r : Nat) (row : List AV), b.rows[r]? = some row → ∀ (j : Nat) (cv : AV), row[j]? = some cv → isV cv = true
  ex : ∃ cur : Array Value, w.heap[(m i).blk]? = some (.cells cur b.ty (0, 0)) ∧ cur.size = (m i).cap * b.size ∧
    ∀ (r : Nat) (row : List AV), b.rows[r]? = some row → row.length = b.size ∧ ∀ (j : Nat) (cv : AV), row[j]? = some cv → ∃ x, cur[r * b.size + j]? = some x ∧ x.oneCell' = true ∧ VR K w m (fun i => S i ∧ b.pl = false) cv x
def OB (K : Nat → Prop) (w : World) (m : Nat → Loc) (S : Nat → Prop) (i : Nat) (b : Blk) : Prop := ((m i).ph = true ∧ b.rows = []) ∨ ((m i).ph = false ∧ BR K w m S i b)
structure Rel (Old : Nat → Prop) (wi : WI Old) (K : Nat → Prop) (m : Nat → Loc) (S : Nat → Prop) (H : Hp) (w : World) : Prop where
  os : w.os = wi.w.os
  tape : w.tape = wi.w.tape
  output : w.output = wi.w.output
  size : wi.w.heap.size ≤ w.heap.size
  old : ∀ k, Old k → w.heap[k]? = wi.w.heap[k]?
  olt : ∀ k, Old k → k < w.heap.size
  oown : ∀ i b, look H i = some b → (m i).ph = false → ¬ Old (m i).blk
  om : ∀ i b, look H i = some b → (m i).ph = true → (m i).cap = 1 → b.size = 1000003 ∧ K (m i).blk ∧ ¬ Old (m i).blk   -- a map of the call's own
  kb : ∀ k, K k → k < w.heap.size
  inS : ∀ i b, look H i = some b → S i
  pin : ∀ i l, wi.pin i = some l → m i = l
  pinS : ∀ i l, wi.pin i = some l → S i
  own : ∀ i b, look H i = some b → OB K w m S i b
  inj : ∀ i j bi bj, look H i = some bi → look H j = some bj → i ≠ j → (m i).ph = false → (m j).ph = false → (m i).blk ≠ (m j).blk
theorem Rel.gl {Old : Nat → Prop} {wi : WI Old} {K : Nat → Prop} {m : Nat → Loc} {S : Nat → Prop} {H : Hp} {w : World} (h : Rel Old wi K m S H w) : Gl w := wi.gl.keep fun k hk => h.old k (wi.go k hk)
def GK (Old K K' : Nat → Prop) : Prop := (∀ k, K k → K' k) ∧ ∀ k, K' k → Old k → K k
theorem GK.refl (Old K : Nat → Prop) : GK Old K K := ⟨fun _ h => h, fun _ h _ => h⟩
theorem GK.trans {Old K K' K'' : Nat → Prop} (h : GK Old K K') (h' : GK Old K' K'') : GK Old K K'' := ⟨fun k hk => h'.1 k (h.1 k hk), fun k hk ho => h.2 k (h'.2 k hk ho) ho⟩
structure TRel (K : Nat → Prop) (w : World) (m : Nat → Loc) (S : Nat → Prop) (N : Nat) (T : Tp) (a : Act) : Prop where
  dn : a.defers = []
  sz : a.tmps.size = N
  tm : ∀ t av, look T t = some av → VR K w m S av (a.tmps.getD t undef)
def evalA (T : Tp) : Operand → Option AV
  | .tmp t => look T t
  | .const v => some (.v v)
  | .func f => some (.fn f [])
  | .global _ => none
theorem TRel.eval {K : Nat → Prop} {w : World} {m : Nat → Loc} {S : Nat → Prop} {N : Nat} {T : Tp} {a : Act} (h : TRel K w m S N T a) {x : Operand} {av : AV} (he : evalA T x = some av) : VR K w m S av (a.eval x) := by
  cases x with
  | tmp t => exact h.tm t av he
  | const v => simp only [evalA, Option.some.injEq] at he; subst he; exact .v _ v
  | func f => simp only [evalA, Option.some.injEq] at he; subst he; exact .fn _ f [] [] rfl (by simp)
  | global g => simp [evalA] at he
end Go.Proofs.Ytljpgbgokjiamaa.Aw

namespace Go.Proofs.Ytljpgbgokjiamaa.Aw
open Go Go.RowKit
inductive TK where
  | struct (fs : List (Nat × Nat × Bool))
  | slice (elem : TypeId) (esize ebytes : Nat) (ezero : List Value)
  | array (len esize : Nat) (eagg : Bool)
  | int (k : IntKind)
  | str
  | bool
  | other
structure TI where
  cells : Nat
  agg : Bool
  bytes : Nat
  zero : List Value
  k : TK
def aggD : TypeDesc → Bool
  | .struct _ | .array _ _ => true
  | _ => false
def isAggP (P : Program) (t : TypeId) : Bool := match P.underlying t with
  | some d => aggD d
  | none => false
def tkOf (P : Program) : TypeDesc → TK
  | .struct fs => if fs.all (fun f => (P.underlying f.type).isSome && (P.info? f.type).isSome) then .struct (fs.toList.map fun f => (f.offset, P.cellsOf f.type, isAggP P f.type)) else .other
  | .slice e => match P.info? e with
    | some i => match i.zero with
      | some z => .slice e i.size i.bytes z.cells.toList
      | none => .other
    | none => .other
  | .array n e => if (P.underlying e).isSome && (P.info? e).isSome then .array n (P.cellsOf e) (isAggP P e) else .other
  | .int k => .int k
  | .string => .str
  | .bool => .bool
  | _ => .other
def tiOf (P : Program) (t : TypeId) : Option TI :=
  match P.info? t, P.underlying t with
  | some i, some d => match i.zero with
    | some z => some ⟨i.size, aggD d, i.bytes, z.cells.toList, tkOf P d⟩
    | none => none
  | _, _ => none
theorem tiOf_spec {P : Program} {t : TypeId} {ti : TI} (h : tiOf P t = some ti) :
    ∃ i d z, P.info? t = some i ∧ P.underlying t = some d ∧ i.zero = some z ∧ i.size = ti.cells ∧ aggD d = ti.agg ∧ i.bytes = ti.bytes ∧ z.cells.toList = ti.zero ∧ tkOf P d = ti.k := by
  unfold tiOf at h
  split at h
  · rename_i i d hi hd
    split at h
    · rename_i z hz
      simp only [Option.some.injEq] at h
      subst h
      exact ⟨i, d, z, hi, hd, hz, rfl, rfl, rfl, rfl, rfl⟩
    · cases h
  · cases h
def addS (S : Nat → Prop) (n n' : Nat) : Nat → Prop := fun i => S i ∨ (n ≤ i ∧ i < n')
structure Aft (Old : Nat → Prop) (wi : WI Old) (K : Nat → Prop) (m : Nat → Loc) (S : Nat → Prop) (w : World) (n : Nat) (v : AV) (H' : Hp) (n' : Nat) (ro : Bool) (r : Value) (w' : World) (m' : Nat → Loc) (K' : Nat → Prop) : Prop where
  ag : ∀ i, ¬ (n ≤ i ∧ i < n') → m' i = m i
  gk : GK Old K K'
  rel : Rel Old wi K' m' (addS S n n') H' w'
  vr : VR K' w' m' (addS S n n') v r
  kk : ∀ k, K k → w'.heap[k]? = w.heap[k]?
  fr : ro = true → Below w.heap.size w w' ∧ (∀ i, n ≤ i → i < n' → (m' i).ph = false → w.heap.size ≤ (m' i).blk) ∧ ∀ k, K' k → k < w.heap.size → K k
def Step (P : Program) (o : Oper) (N : Nat) (T : Tp) (H : Hp) (n : Nat) (v : AV) (H' : Hp) (n' : Nat) (ro : Bool) : Prop :=
  n ≤ n' ∧ ∀ (Old : Nat → Prop) (wi : WI Old) (K : Nat → Prop) (m : Nat → Loc) (S : Nat → Prop) (a : Act) (w : World),
    (∀ i, n ≤ i → i < n' → ¬ S i) → Rel Old wi K m S H w → TRel K w m S N T a →
    ∀ (next : Act → World → Prop) (Q : Exit → Act → World → Prop),
      (∀ r w' m' K', Aft Old wi K m S w n v H' n' ro r w' m' K' → next (a.put o.dst r) w') → o.wp P a w next Q
abbrev FW (rr : Option Nat) : Fence := { fn := fun _ => True, depth := none, alive := false, round := rr }
theorem callsIn_FW {rr : Option Nat} {k : Nat} {P : Program} {f : FuncId} {args : Array Value} {w : World} {R : Ending → World → Prop} (h : Calls P f args w R) : CallsIn (FW rr) k P f args w R :=
  ⟨trivial, fun cs _ => let ⟨e, w', fr, r, s, x⟩ := h cs; ⟨e, w', fr, r, comesIn_wide.2 s, x⟩⟩
theorem rowsIn_FW {rr : Option Nat} {k : Nat} {P : Program} {row : String} {args : Array Value} {w : World} {R : Value → World → Prop} (h : Rows P row args w R) : RowsIn (FW rr) k P row args w R :=
  fun c cs _ => let ⟨v, w', r, s⟩ := h c cs; ⟨v, w', r, stepsIn_wide.2 s⟩
theorem upon_FW {rr : Option Nat} {P : Program} {o : Oper} {a : Act} {next : Act → World → Prop} {Q : Exit → Act → World → Prop} {r : Result Next} (h : o.upon P a next Q r) : o.uponIn (FW rr) 0 P a next Q r := by
  have hd : ∀ {p : Prop}, ((FW rr).depth.isSome = true → p) := fun h => by simp at h
  cases r with
  | ok x w' =>
    cases x <;> simp only [Oper.upon, Oper.uponIn] at h ⊢ <;> first
      | exact h
      | exact ⟨hd, callsIn_FW h⟩
      | exact ⟨hd, rowsIn_FW h⟩
      | exact h.elim
  | halt x w' => cases x <;> simp only [Oper.upon, Oper.uponIn] at h ⊢ <;> exact h
theorem wpIn_all {P : Program} {o : Oper} {a : Act} {w : World} {R : Act → World → Prop} (hR : ∀ a' w', R a' w' → a'.defers = a.defers) (h : ∀ (next : Act → World → Prop) (Q : Exit → Act → World → Prop), (∀ a' w', R a' w' → next a' w') → o.wp P a w next Q)
    (rr : Option Nat) (next : Act → World → Prop) (Q : Exit → Act → World → Prop) (hn : ∀ a' w', R a' w' → next a' w') : o.wpIn (FW rr) 0 P a w next Q := by
  have nd : ∀ c, o.op ≠ .defer c := by
    intro c hc
    have h1 := h (fun a' _ => a'.defers = a.defers) (fun _ _ _ => False) hR
    unfold Oper.wp at h1
    simp only [execOp, hc, Sem.run_bind] at h1
    cases hres : (resolve a.eval c o.type).run P w with
    | ok d w' =>
      simp only [hres, Result.andThen, Sem.run_pure, Oper.upon] at h1
      cases hd : o.dst <;> simp [Act.put, hd] at h1
    | halt x w' =>
      simp only [hres, Result.andThen] at h1
      cases x <;> simp only [Oper.upon] at h1
  exact ⟨fun _ _ => trivial, by rw [Oper.semAt_eq _ _ _ nd]; exact upon_FW (h next Q hn)⟩
theorem Step.inn {P : Program} {o : Oper} {N : Nat} {T : Tp} {H H' : Hp} {n n' : Nat} {v : AV} {ro : Bool} (hs : Step P o N T H n v H' n' ro) {Old : Nat → Prop} {wi : WI Old} {K : Nat → Prop} {m : Nat → Loc} {S : Nat → Prop} {a : Act} {w : World}
    (hS : ∀ i, n ≤ i → i < n' → ¬ S i) (hr : Rel Old wi K m S H w) (ht : TRel K w m S N T a) (rr : Option Nat) (next : Act → World → Prop) (Q : Exit → Act → World → Prop)
    (hn : ∀ r w' m' K', Aft Old wi K m S w n v H' n' ro r w' m' K' → next (a.put o.dst r) w') : o.wpIn (FW rr) 0 P a w next Q :=
  wpIn_all (R := fun a' w' => ∃ r m' K', Aft Old wi K m S w n v H' n' ro r w' m' K' ∧ a' = a.put o.dst r) (by rintro _ _ ⟨r, _, _, _, rfl⟩; cases hd : o.dst <;> simp [Act.put])
    (fun next Q hn => hs.2 Old wi K m S a w hS hr ht next Q fun r w' m' K' ha => hn _ _ ⟨r, m', K', ha, rfl⟩) rr next Q (by rintro _ w' ⟨r, m', K', ha, rfl⟩; exact hn r w' m' K' ha)
def drw (w : World) (k : Nat) : World := { w with drawn := k }
theorem below_drw {B : Nat} {a w : World} (h : Below B a w) (n : Nat) : Below B a (drw w n) := h.trans ⟨rfl, rfl, rfl, Nat.le_refl _, fun _ _ => rfl⟩
section
variable {Old : Nat → Prop} {wi : WI Old} {K : Nat → Prop} {m m' : Nat → Loc} {S S' : Nat → Prop} {H H' : Hp} {w w' : World}
theorem BR.mono {i : Nat} {b : Blk} (h : BR K w m S i b) (hw : ∀ k, K k → w'.heap[k]? = w.heap[k]?) (hb : w'.heap[(m i).blk]? = w.heap[(m i).blk]?)
    (hS : ∀ i, S i → S' i) (hm : ∀ i, S i → m' i = m i) (hi : S i) : BR K w' m' S' i b := by
  obtain ⟨cur, h1, h2, h3⟩ := h.ex
  refine ⟨by rw [hm i hi]; exact h.nk, by rw [hm i hi]; exact h.sz, by rw [hm i hi]; exact h.cap, by rw [hm i hi]; exact h.capm, h.plv, cur, by rw [hm i hi, hb]; exact h1, by rw [hm i hi]; exact h2, fun r row hr => ⟨(h3 r row hr).1, fun j cv hj => ?_⟩⟩
  obtain ⟨x, hx, h1, hv⟩ := (h3 r row hr).2 j cv hj
  exact ⟨x, hx, h1, hv.mono (fun _ hk => hk) hw (fun i hi => ⟨hS i hi.1, hi.2⟩) (fun i hi => hm i hi.1)⟩
theorem BR.mono2 {K' : Nat → Prop} {i : Nat} {b : Blk} (h : BR K w m S i b) (hK : ∀ k, K k → K' k) (hn : K' (m i).blk → K (m i).blk) (hw : ∀ k, K k → w'.heap[k]? = w.heap[k]?) (hb : w'.heap[(m i).blk]? = w.heap[(m i).blk]?)
    (hS : ∀ i, S i → S' i) (hm : ∀ i, S i → m' i = m i) (hi : S i) : BR K' w' m' S' i b := by
  obtain ⟨cur, h1, h2, h3⟩ := h.ex
  refine ⟨by rw [hm i hi]; exact fun hk => h.nk (hn hk), by rw [hm i hi]; exact h.sz, by rw [hm i hi]; exact h.cap, by rw [hm i hi]; exact h.capm, h.plv, cur, by rw [hm i hi, hb]; exact h1, by rw [hm i hi]; exact h2, fun r row hr => ⟨(h3 r row hr).1, fun j cv hj => ?_⟩⟩
  obtain ⟨x, hx, h1, hv⟩ := (h3 r row hr).2 j cv hj
  exact ⟨x, hx, h1, hv.mono hK hw (fun i hi => ⟨hS i hi.1, hi.2⟩) (fun i hi => hm i hi.1)⟩
theorem OB.mono2 {K' : Nat → Prop} {i : Nat} {b : Blk} (h : OB K w m S i b) (hK : ∀ k, K k → K' k) (hn : (m i).ph = false → K' (m i).blk → K (m i).blk) (hw : ∀ k, K k → w'.heap[k]? = w.heap[k]?) (hb : (m i).ph = false → BR K w m S i b → w'.heap[(m i).blk]? = w.heap[(m i).blk]?)
    (hS : ∀ i, S i → S' i) (hm : ∀ i, S i → m' i = m i) (hi : S i) : OB K' w' m' S' i b := by
  rcases h with ⟨h1, h2⟩ | ⟨h1, h2⟩
  · exact .inl ⟨by rw [hm i hi]; exact h1, h2⟩
  · exact .inr ⟨by rw [hm i hi]; exact h1, h2.mono2 hK (hn h1) hw (hb h1 h2) hS hm hi⟩
theorem OB.mono {i : Nat} {b : Blk} (h : OB K w m S i b) (hw : ∀ k, K k → w'.heap[k]? = w.heap[k]?) (hb : (m i).ph = false → BR K w m S i b → w'.heap[(m i).blk]? = w.heap[(m i).blk]?)
    (hS : ∀ i, S i → S' i) (hm : ∀ i, S i → m' i = m i) (hi : S i) : OB K w' m' S' i b :=
  h.mono2 (fun _ h => h) (fun _ h => h) hw hb hS hm hi
theorem OB.real {i : Nat} {b : Blk} (h : OB K w m S i b) {r : Nat} {row : List AV} (hr : b.rows[r]? = some row) : (m i).ph = false ∧ BR K w m S i b := by
  rcases h with ⟨_, h2⟩ | h
  · rw [h2] at hr; simp at hr
  · exact h
theorem OB.br {i : Nat} {b : Blk} (h : OB K w m S i b) (hp : (m i).ph = false) : BR K w m S i b := by
  rcases h with ⟨h1, _⟩ | h
  · rw [hp] at h1; cases h1
  · exact h.2
theorem Rel.monoS (h : Rel Old wi K m S H w) (hS : ∀ i, S i → S' i) (hm : ∀ i, S i → m' i = m i) : Rel Old wi K m' S' H w :=
  { h with
    inS := fun i b hl => hS i (h.inS i b hl)
    pin := fun i l hp => (hm i (h.pinS i l hp)).trans (h.pin i l hp)
    pinS := fun i l hp => hS i (h.pinS i l hp)
    own := fun i b hl => (h.own i b hl).mono (fun _ _ => rfl) (fun _ _ => rfl) hS hm (h.inS i b hl)
    oown := fun i b hl => by rw [hm i (h.inS i b hl)]; exact h.oown i b hl
    om := fun i b hl => by rw [hm i (h.inS i b hl)]; exact h.om i b hl
    inj := fun i j bi bj hi hj hne => by rw [hm i (h.inS i bi hi), hm j (h.inS j bj hj)]; exact h.inj i j bi bj hi hj hne }
theorem Rel.sub (h : Rel Old wi K m S H w) (hH : ∀ i b, look H' i = some b → look H i = some b) : Rel Old wi K m S H' w :=
  { h with
    inS := fun i b hl => h.inS i b (hH i b hl)
    own := fun i b hl => h.own i b (hH i b hl)
    oown := fun i b hl => h.oown i b (hH i b hl)
    om := fun i b hl => h.om i b (hH i b hl)
    inj := fun i j bi bj hi hj hne => h.inj i j bi bj (hH i bi hi) (hH j bj hj) hne }
theorem Rel.drw (h : Rel Old wi K m S H w) (k : Nat) : Rel Old wi K m S H (drw w k) :=
  { os := h.os, tape := h.tape, output := h.output, size := h.size, old := h.old, olt := h.olt, oown := h.oown, om := h.om, kb := h.kb, inS := h.inS, pin := h.pin, pinS := h.pinS, inj := h.inj
    own := fun i b hl => (h.own i b hl).mono (fun _ _ => rfl) (fun _ _ => rfl) (fun _ hi => hi) (fun _ _ => rfl) (h.inS i b hl) }
theorem BR.lt_size {i : Nat} {b : Blk} (h : BR K w m S i b) : (m i).blk < w.heap.size := by
  obtain ⟨cur, h1, _⟩ := h.ex
  rcases Nat.lt_or_ge (m i).blk w.heap.size with hlt | hge
  · exact hlt
  · rw [Array.getElem?_eq_none hge] at h1; cases h1
def updL (m : Nat → Loc) (n : Nat) (l : Loc) : Nat → Loc := fun i => if i = n then l else m i
theorem updL_same (m : Nat → Loc) (n : Nat) (l : Loc) : updL m n l n = l := by simp [updL]
theorem updL_ne (m : Nat → Loc) {n i : Nat} (l : Loc) (h : i ≠ n) : updL m n l i = m i := by simp [updL, h]
theorem Rel.new (h : Rel Old wi K m S H w) {n : Nat} (hn : ¬ S n) (b : Blk) (cap : Nat) (cur : Array Value) (hcap : b.rows.length ≤ cap) (hcm : cap ≤ maxLen) (hpv : b.pl = true → ∀ (r : Nat) (row : List AV), b.rows[r]? = some row → ∀ (j : Nat) (cv : AV), row[j]? = some cv → isV cv = true) (hsz : cur.size = cap * b.size)
    (hv : ∀ (r : Nat) (row : List AV), b.rows[r]? = some row → row.length = b.size ∧ ∀ (j : Nat) (cv : AV), row[j]? = some cv → ∃ x, cur[r * b.size + j]? = some x ∧ x.oneCell' = true ∧ VR K w m (fun i => S i ∧ b.pl = false) cv x) :
    Rel Old wi K (updL m n ⟨w.heap.size, cap, b.size, false⟩) (addS S n (n + 1)) ((n, b) :: H) (w.alloc (.cells cur b.ty)) := by
  have hm : ∀ i, S i → updL m n ⟨w.heap.size, cap, b.size, false⟩ i = m i := fun i hi => updL_ne _ _ (fun e => hn (e ▸ hi))
  have hk : ∀ k, k < w.heap.size → (w.alloc (.cells cur b.ty)).heap[k]? = w.heap[k]? := fun k hk => Below.heap_alloc _ _ _ hk
  have hsize : (w.alloc (.cells cur b.ty)).heap.size = w.heap.size + 1 := by simp
  have old : ∀ i bi, i ≠ n → look ((n, b) :: H) i = some bi → look H i = some bi := fun i bi hne hl => by
    simp only [look_cons] at hl
    rwa [if_neg (fun e => hne e.symm)] at hl
  refine { os := h.os, tape := h.tape, output := h.output, size := by rw [hsize]; have := h.size; omega, old := fun k ho => by rw [hk k (h.olt k ho)]; exact h.old k ho, olt := fun k ho => by rw [hsize]; have := h.olt k ho; omega, oown := ?_, om := ?_, kb := fun k hkk => by rw [hsize]; have := h.kb k hkk; omega, pin := fun i l hp => (hm i (h.pinS i l hp)).trans (h.pin i l hp), pinS := fun i l hp => .inl (h.pinS i l hp), inS := ?_, own := ?_, inj := ?_ }
  · intro i bi hl
    by_cases hi : i = n
    · subst hi; rw [updL_same]; exact fun _ ho => Nat.lt_irrefl _ (h.olt _ ho)
    · rw [updL_ne _ _ hi]; exact h.oown i bi (old i bi hi hl)
  · intro i bi hl
    by_cases hi : i = n
    · subst hi; rw [updL_same]; intro h; cases h
    · rw [updL_ne _ _ hi]; exact h.om i bi (old i bi hi hl)
  · intro i bi hl
    by_cases hi : i = n
    · subst hi; exact .inr ⟨Nat.le_refl _, Nat.lt_succ_self _⟩
    · exact .inl (h.inS i bi (old i bi hi hl))
  · intro i bi hl
    by_cases hi : i = n
    · subst hi
      simp only [look_cons, if_true, Option.some.injEq] at hl
      subst hl
      refine .inr ⟨by rw [updL_same], ?_⟩
      refine ⟨by rw [updL_same]; exact fun hc => Nat.lt_irrefl _ (h.kb _ hc), by rw [updL_same], by rw [updL_same]; exact hcap, by rw [updL_same]; exact hcm, hpv, cur, by rw [updL_same]; exact heap_alloc_new w _, by rw [updL_same]; exact hsz, fun r row hr => ⟨(hv r row hr).1, fun j cv hj => ?_⟩⟩
      obtain ⟨x, hx, hone, hvr⟩ := (hv r row hr).2 j cv hj
      exact ⟨x, hx, hone, hvr.mono (fun _ hk => hk) (fun k hkk => hk k (h.kb k hkk)) (fun i hi => ⟨.inl hi.1, hi.2⟩) (fun i hi => hm i hi.1)⟩
    · have hl' := old i bi hi hl
      exact (h.own i bi hl').mono (fun k hkk => hk k (h.kb k hkk)) (fun _ hb => hk _ hb.lt_size) (fun i hi => .inl hi) hm (h.inS i bi hl')
  · intro i j bi bj hi hj hne
    by_cases hin : i = n
    · subst hin
      rw [updL_same, updL_ne _ _ (fun e => hne e.symm)]
      intro _ hp
      have := ((h.own j bj (old j bj (fun e => hne e.symm) hj)).br hp).lt_size
      simp only [ne_eq]
      omega
    · by_cases hjn : j = n
      · subst hjn
        rw [updL_same, updL_ne _ _ hne]
        intro hp _
        have := ((h.own i bi (old i bi hne hi)).br hp).lt_size
        simp only [ne_eq]
        omega
      · rw [updL_ne _ _ hin, updL_ne _ _ hjn]
        exact h.inj i j bi bj (old i bi hin hi) (old j bj hjn hj) hne
theorem Rel.write (h : Rel Old wi K m S H w) {i : Nat} {b b' : Blk} (hl : look H i = some b) (hph : (m i).ph = false) (cur' : Array Value) (hty : b'.ty = b.ty) (hbs : b'.size = b.size)
    (hos : w'.os = w.os) (htape : w'.tape = w.tape) (hout : w'.output = w.output) (hsize : w'.heap.size = w.heap.size)
    (hne : ∀ k, k ≠ (m i).blk → w'.heap[k]? = w.heap[k]?) (heq : w'.heap[(m i).blk]? = some (.cells cur' b.ty (0, 0)))
    (hcap : b'.rows.length ≤ (m i).cap) (hpv : b'.pl = true → ∀ (r : Nat) (row : List AV), b'.rows[r]? = some row → ∀ (j : Nat) (cv : AV), row[j]? = some cv → isV cv = true) (hsz : cur'.size = (m i).cap * b.size)
    (hv : ∀ (r : Nat) (row : List AV), b'.rows[r]? = some row → row.length = b.size ∧ ∀ (j : Nat) (cv : AV), row[j]? = some cv → ∃ x, cur'[r * b.size + j]? = some x ∧ x.oneCell' = true ∧ VR K w m (fun i => S i ∧ b'.pl = false) cv x) :
    Rel Old wi K m S ((i, b') :: H) w' := by
  have hbr := (h.own i b hl).br hph
  have nk := hbr.nk
  have hk : ∀ k, K k → w'.heap[k]? = w.heap[k]? := fun k hkk => hne k (fun e => nk (e ▸ hkk))
  have old : ∀ j bj, j ≠ i → look ((i, b') :: H) j = some bj → look H j = some bj := fun j bj hne hl => by
    simp only [look_cons] at hl
    rwa [if_neg (fun e => hne e.symm)] at hl
  have any : ∀ j bj, look ((i, b') :: H) j = some bj → ∃ bj', look H j = some bj' := fun j bj hj => by
    by_cases hji : j = i
    · subst hji; exact ⟨b, hl⟩
    · exact ⟨bj, old j bj hji hj⟩
  refine { os := hos.trans h.os, tape := htape.trans h.tape, output := hout.trans h.output, size := by rw [hsize]; exact h.size, old := fun k ho => (hne k (fun e => h.oown i b hl hph (e ▸ ho))).trans (h.old k ho), olt := fun k ho => by rw [hsize]; exact h.olt k ho, oown := fun j bj hj => by obtain ⟨bj', hj'⟩ := any j bj hj; exact h.oown j bj' hj', om := fun j bj hj => ?_, kb := fun k hkk => by rw [hsize]; exact h.kb k hkk, pin := h.pin, pinS := h.pinS, inS := ?_, own := ?_, inj := ?_ }
  · by_cases hji : j = i
    · subst hji; exact fun hp => by rw [hph] at hp; cases hp
    · exact h.om j bj (old j bj hji hj)
  · intro j bj hj
    obtain ⟨bj', hj'⟩ := any j bj hj
    exact h.inS j bj' hj'
  · intro j bj hj
    by_cases hji : j = i
    · subst hji
      simp only [look_cons, if_true, Option.some.injEq] at hj
      subst hj
      refine .inr ⟨hph, ?_⟩
      refine ⟨nk, by rw [hbs]; exact hbr.sz, hcap, hbr.capm, hpv, cur', by rw [hty]; exact heq, by rw [hbs]; exact hsz, fun r row hr => ⟨by rw [hbs]; exact (hv r row hr).1, fun k cv hj => ?_⟩⟩
      obtain ⟨x, hx, hone, hvr⟩ := (hv r row hr).2 k cv hj
      exact ⟨x, by rw [hbs]; exact hx, hone, hvr.mono (fun _ hk => hk) hk (fun _ hi => hi) (fun _ _ => rfl)⟩
    · have hl' := old j bj hji hj
      exact (h.own j bj hl').mono hk (fun hp _ => hne _ (h.inj j i bj b hl' hl hji hp hph)) (fun _ hi => hi) (fun _ _ => rfl) (h.inS j bj hl')
  · intro j k bj bk hj hk hne
    obtain ⟨bj', hj'⟩ := any j bj hj
    obtain ⟨bk', hk'⟩ := any k bk hk
    exact h.inj j k bj' bk' hj' hk' hne
end
theorem Step.still {P : Program} {o : Oper} {N : Nat} {T : Tp} {H : Hp} {n : Nat} {v : AV}
    (h : ∀ (Old : Nat → Prop) (wi : WI Old) (K : Nat → Prop) (m : Nat → Loc) (S : Nat → Prop) (a : Act) (w : World), Rel Old wi K m S H w → TRel K w m S N T a →
      ∃ r, (execOp a.eval o).run P w = .ok (.value r) w ∧ VR K w m S v r) : Step P o N T H n v H n true := by
  refine ⟨Nat.le_refl _, fun Old wi K m S a w hS hr ht next Q hn => ?_⟩
  obtain ⟨r, h1, h2⟩ := h Old wi K m S a w hr ht
  unfold Oper.wp
  rw [h1]
  have hm : ∀ i, S i → addS S n n i := fun i hi => .inl hi
  exact hn r w m K ⟨fun _ _ => rfl, GK.refl _ _, hr.monoS hm (fun _ _ => rfl), h2.mono (fun _ hk => hk) (fun _ _ => rfl) hm (fun _ _ => rfl), fun _ _ => rfl,
    fun _ => ⟨Below.refl _ _, fun i h1 h2 => absurd h2 (by omega), fun _ h _ => h⟩⟩
theorem Step.new {P : Program} {o : Oper} {N : Nat} {T : Tp} {H : Hp} {n : Nat} {v : AV} (b : Blk) (hpv : b.pl = true → ∀ (r : Nat) (row : List AV), b.rows[r]? = some row → ∀ (j : Nat) (cv : AV), row[j]? = some cv → isV cv = true)
    (h : ∀ (Old : Nat → Prop) (wi : WI Old) (K : Nat → Prop) (m : Nat → Loc) (S : Nat → Prop) (a : Act) (w : World), Rel Old wi K m S H w → TRel K w m S N T a →
      ∃ (r : Value) (d cap : Nat) (cur : Array Value), (execOp a.eval o).run P w = .ok (.value r) ((drw w d).alloc (.cells cur b.ty)) ∧ b.rows.length ≤ cap ∧ cap ≤ maxLen ∧ cur.size = cap * b.size ∧
        (∀ (r : Nat) (row : List AV), b.rows[r]? = some row → row.length = b.size ∧ ∀ (j : Nat) (cv : AV), row[j]? = some cv → ∃ x, cur[r * b.size + j]? = some x ∧ x.oneCell' = true ∧ VR K w m (fun i => S i ∧ b.pl = false) cv x) ∧
        ∀ m' w', m' n = ⟨w.heap.size, cap, b.size, false⟩ → VR K w' m' (addS S n (n + 1)) v r) : Step P o N T H n v ((n, b) :: H) (n + 1) true := by
  refine ⟨Nat.le_succ _, fun Old wi K m S a w hS hr ht next Q hn => ?_⟩
  obtain ⟨r, d, cap, cur, h1, h2, hcm, h3, h4, h5⟩ := h Old wi K m S a w hr ht
  unfold Oper.wp
  rw [h1]
  have hns : ¬ S n := hS n (Nat.le_refl _) (Nat.lt_succ_self _)
  have hrel := (hr.drw d).new hns b cap cur h2 hcm hpv h3 (fun r row hr => ⟨(h4 r row hr).1, fun j cv hj => by
    obtain ⟨x, hx, hone, hvr⟩ := (h4 r row hr).2 j cv hj
    exact ⟨x, hx, hone, hvr.mono (fun _ hk => hk) (fun _ _ => rfl) (fun _ hi => hi) (fun _ _ => rfl)⟩⟩)
  refine hn r _ _ K ⟨fun i hi => updL_ne _ _ (fun e => hi (by omega)), GK.refl _ _, hrel, h5 _ _ (updL_same _ _ _), fun k hk => ?_, fun _ => ⟨?_, fun i hi hi' _ => ?_, fun _ h _ => h⟩⟩
  · exact Below.heap_alloc _ _ _ (hr.kb k hk)
  · exact (below_drw (Below.refl _ w) d).alloc (Nat.le_refl _) _
  · have : i = n := by omega
    subst this
    rw [updL_same]
    exact Nat.le_refl _
end Go.Proofs.Ytljpgbgokjiamaa.Aw

namespace Go.Proofs.Ytljpgbgokjiamaa.Aw
open Go Go.RowKit
def allTy (P : Program) : List (Nat × TI) → Prop
  | [] => True
  | (t, i) :: l => tiOf P t = some i ∧ allTy P l
theorem look_allTy {P : Program} : ∀ {l : List (Nat × TI)} {t : Nat} {i : TI}, allTy P l → look l t = some i → tiOf P t = some i
  | [], _, _, _, h => by simp [look_nil] at h
  | (u, x) :: l, t, i, ha, h => by
    rw [look_cons] at h
    split at h
    · rename_i he; subst he; simp only [Option.some.injEq] at h; subst h; exact ha.1
    · exact look_allTy ha.2 h
theorem ty_1 : tiOf Try.prog 1 = some ⟨1, false, 8, [.nilFunc], .other⟩ := by kernel_rfl
theorem ty_2 : tiOf Try.prog 2 = some ⟨1, false, 8, [.int .i64 0], .int .i64⟩ := by kernel_rfl
theorem ty_3 : tiOf Try.prog 3 = some ⟨1, false, 8, [.int .i64 0], .int .i64⟩ := by kernel_rfl
theorem ty_4 : tiOf Try.prog 4 = some ⟨1, false, 1, [.bool false], .bool⟩ := by kernel_rfl
theorem ty_5 : tiOf Try.prog 5 = some ⟨1, false, 1, [.int .u8 0], .int .u8⟩ := by kernel_rfl
theorem ty_6 : tiOf Try.prog 6 = some ⟨1, false, 1, [.int .u8 0], .int .u8⟩ := by kernel_rfl
theorem ty_7 : tiOf Try.prog 7 = some ⟨4, true, 24, [.int .i64 0, .int .i64 0, .bool false, .int .u8 0], .struct [(0, 1, false), (1, 1, false), (2, 1, false), (3, 1, false)]⟩ := by kernel_rfl
theorem ty_8 : tiOf Try.prog 8 = some ⟨4, true, 24, [.int .i64 0, .int .i64 0, .bool false, .int .u8 0], .struct [(0, 1, false), (1, 1, false), (2, 1, false), (3, 1, false)]⟩ := by kernel_rfl
theorem ty_9 : tiOf Try.prog 9 = some ⟨1, false, 16, [.string ByteArray.empty], .str⟩ := by kernel_rfl
theorem ty_10 : tiOf Try.prog 10 = some ⟨1, false, 16, [.string ByteArray.empty], .str⟩ := by kernel_rfl
theorem ty_11 : tiOf Try.prog 11 = some ⟨1, false, 16, [.string ByteArray.empty], .str⟩ := by kernel_rfl
theorem ty_12 : tiOf Try.prog 12 = some ⟨1, false, 8, [.int .u64 0], .int .u64⟩ := by kernel_rfl
theorem ty_13 : tiOf Try.prog 13 = some ⟨2, true, 24, [.string ByteArray.empty, .int .u64 0], .struct [(0, 1, false), (1, 1, false)]⟩ := by kernel_rfl
theorem ty_14 : tiOf Try.prog 14 = some ⟨2, true, 24, [.string ByteArray.empty, .int .u64 0], .struct [(0, 1, false), (1, 1, false)]⟩ := by kernel_rfl
theorem ty_15 : tiOf Try.prog 15 = some ⟨1, false, 8, [.pointer none], .other⟩ := by kernel_rfl
theorem ty_16 : tiOf Try.prog 16 = some ⟨1, false, 8, [.pointer none], .other⟩ := by kernel_rfl
theorem ty_17 : tiOf Try.prog 17 = some ⟨1, false, 8, [.pointer none], .other⟩ := by kernel_rfl
theorem ty_18 : tiOf Try.prog 18 = some ⟨1, true, 8, [.pointer none], .struct [(0, 1, false)]⟩ := by kernel_rfl
theorem ty_19 : tiOf Try.prog 19 = some ⟨1, true, 8, [.pointer none], .struct [(0, 1, false)]⟩ := by kernel_rfl
theorem ty_21 : tiOf Try.prog 21 = some ⟨1, false, 4, [.int .i32 0], .int .i32⟩ := by kernel_rfl
theorem ty_22 : tiOf Try.prog 22 = some ⟨1, false, 24, [.slice none 0 0], .slice 5 1 1 [.int .u8 0]⟩ := by kernel_rfl
theorem ty_23 : tiOf Try.prog 23 = some ⟨1, false, 8, [.nilFunc], .other⟩ := by kernel_rfl
theorem ty_24 : tiOf Try.prog 24 = some ⟨1, false, 24, [.slice none 0 0], .slice 2 1 8 [.int .i64 0]⟩ := by kernel_rfl
theorem ty_25 : tiOf Try.prog 25 = some ⟨5, true, 72, [.int .i64 0, .int .i64 0, .int .i64 0, .slice none 0 0, .slice none 0 0], .struct [(0, 1, false), (1, 1, false), (2, 1, false), (3, 1, false), (4, 1, false)]⟩ := by kernel_rfl
theorem ty_26 : tiOf Try.prog 26 = some ⟨5, true, 72, [.int .i64 0, .int .i64 0, .int .i64 0, .slice none 0 0, .slice none 0 0], .struct [(0, 1, false), (1, 1, false), (2, 1, false), (3, 1, false), (4, 1, false)]⟩ := by kernel_rfl
theorem ty_28 : tiOf Try.prog 28 = some ⟨1, false, 8, [.nilFunc], .other⟩ := by kernel_rfl
theorem ty_29 : tiOf Try.prog 29 = some ⟨5, true, 40, [.int .i64 0, .int .i64 0, .int .i64 0, .int .i64 0, .int .i64 0], .struct [(0, 1, false), (1, 1, false), (2, 1, false), (3, 1, false), (4, 1, false)]⟩ := by kernel_rfl
theorem ty_30 : tiOf Try.prog 30 = some ⟨5, true, 40, [.int .i64 0, .int .i64 0, .int .i64 0, .int .i64 0, .int .i64 0], .struct [(0, 1, false), (1, 1, false), (2, 1, false), (3, 1, false), (4, 1, false)]⟩ := by kernel_rfl
theorem ty_32 : tiOf Try.prog 32 = some ⟨1, false, 8, [.nilFunc], .other⟩ := by kernel_rfl
theorem ty_33 : tiOf Try.prog 33 = some ⟨1, false, 8, [.nilFunc], .other⟩ := by kernel_rfl
theorem ty_34 : tiOf Try.prog 34 = some ⟨1, false, 8, [.nilFunc], .other⟩ := by kernel_rfl
theorem ty_36 : tiOf Try.prog 36 = some ⟨1, false, 8, [.nilFunc], .other⟩ := by kernel_rfl
theorem ty_38 : tiOf Try.prog 38 = some ⟨1, false, 8, [.nilFunc], .other⟩ := by kernel_rfl
theorem ty_39 : tiOf Try.prog 39 = some ⟨1, false, 8, [.nilFunc], .other⟩ := by kernel_rfl
theorem ty_40 : tiOf Try.prog 40 = some ⟨1, false, 24, [.slice none 0 0], .slice 24 1 24 [.slice none 0 0]⟩ := by kernel_rfl
theorem ty_42 : tiOf Try.prog 42 = some ⟨1, false, 8, [.nilFunc], .other⟩ := by kernel_rfl
theorem ty_43 : tiOf Try.prog 43 = some ⟨1, false, 8, [.nilFunc], .other⟩ := by kernel_rfl
theorem ty_44 : tiOf Try.prog 44 = some ⟨1, false, 8, [.nilFunc], .other⟩ := by kernel_rfl
theorem ty_45 : tiOf Try.prog 45 = some ⟨1, false, 8, [.nilFunc], .other⟩ := by kernel_rfl
theorem ty_46 : tiOf Try.prog 46 = some ⟨1, false, 8, [.nilFunc], .other⟩ := by kernel_rfl
theorem ty_47 : tiOf Try.prog 47 = some ⟨1, false, 8, [.nilFunc], .other⟩ := by kernel_rfl
theorem ty_48 : tiOf Try.prog 48 = some ⟨1, false, 8, [.nilFunc], .other⟩ := by kernel_rfl
theorem ty_49 : tiOf Try.prog 49 = some ⟨1, false, 8, [.nilFunc], .other⟩ := by kernel_rfl
theorem ty_50 : tiOf Try.prog 50 = some ⟨1, false, 8, [.nilFunc], .other⟩ := by kernel_rfl
theorem ty_51 : tiOf Try.prog 51 = some ⟨1, false, 8, [.pointer none], .other⟩ := by kernel_rfl
theorem ty_52 : tiOf Try.prog 52 = some ⟨1, false, 8, [.nilFunc], .other⟩ := by kernel_rfl
theorem ty_53 : tiOf Try.prog 53 = some ⟨1, false, 8, [.nilFunc], .other⟩ := by kernel_rfl
theorem ty_54 : tiOf Try.prog 54 = some ⟨1, false, 8, [.nilFunc], .other⟩ := by kernel_rfl
theorem ty_55 : tiOf Try.prog 55 = some ⟨1, false, 8, [.nilFunc], .other⟩ := by kernel_rfl
theorem ty_56 : tiOf Try.prog 56 = some ⟨1, false, 8, [.nilFunc], .other⟩ := by kernel_rfl
theorem ty_57 : tiOf Try.prog 57 = some ⟨1, false, 8, [.nilFunc], .other⟩ := by kernel_rfl
theorem ty_58 : tiOf Try.prog 58 = some ⟨1, false, 8, [.nilFunc], .other⟩ := by kernel_rfl
theorem ty_59 : tiOf Try.prog 59 = some ⟨1, false, 8, [.pointer none], .other⟩ := by kernel_rfl
theorem ty_60 : tiOf Try.prog 60 = some ⟨1, false, 24, [.slice none 0 0], .slice 3 1 8 [.int .i64 0]⟩ := by kernel_rfl
theorem ty_61 : tiOf Try.prog 61 = some ⟨1, false, 8, [.nilFunc], .other⟩ := by kernel_rfl
theorem ty_62 : tiOf Try.prog 62 = some ⟨1, false, 8, [.nilFunc], .other⟩ := by kernel_rfl
theorem ty_63 : tiOf Try.prog 63 = some ⟨1, false, 8, [.nilFunc], .other⟩ := by kernel_rfl
theorem ty_64 : tiOf Try.prog 64 = some ⟨1, false, 8, [.nilFunc], .other⟩ := by kernel_rfl
theorem ty_65 : tiOf Try.prog 65 = some ⟨1, false, 8, [.nilFunc], .other⟩ := by kernel_rfl
theorem ty_66 : tiOf Try.prog 66 = some ⟨1, false, 8, [.nilFunc], .other⟩ := by kernel_rfl
theorem ty_67 : tiOf Try.prog 67 = some ⟨1, false, 8, [.nilFunc], .other⟩ := by kernel_rfl
theorem ty_68 : tiOf Try.prog 68 = some ⟨1, false, 8, [.nilFunc], .other⟩ := by kernel_rfl
theorem ty_69 : tiOf Try.prog 69 = some ⟨1, false, 8, [.nilFunc], .other⟩ := by kernel_rfl
theorem ty_70 : tiOf Try.prog 70 = some ⟨1, false, 8, [.nilFunc], .other⟩ := by kernel_rfl
theorem ty_71 : tiOf Try.prog 71 = some ⟨1, false, 8, [.nilFunc], .other⟩ := by kernel_rfl
theorem ty_72 : tiOf Try.prog 72 = some ⟨1, false, 8, [.nilFunc], .other⟩ := by kernel_rfl
theorem ty_73 : tiOf Try.prog 73 = some ⟨1, false, 8, [.int .u64 0], .int .u64⟩ := by kernel_rfl
theorem ty_74 : tiOf Try.prog 74 = some ⟨3, true, 40, [.slice none 0 0, .int .i64 0, .int .u64 0], .struct [(0, 1, false), (1, 1, false), (2, 1, false)]⟩ := by kernel_rfl
theorem ty_75 : tiOf Try.prog 75 = some ⟨3, true, 40, [.slice none 0 0, .int .i64 0, .int .u64 0], .struct [(0, 1, false), (1, 1, false), (2, 1, false)]⟩ := by kernel_rfl
theorem ty_76 : tiOf Try.prog 76 = some ⟨1, false, 8, [.nilFunc], .other⟩ := by kernel_rfl
theorem ty_77 : tiOf Try.prog 77 = some ⟨1, false, 8, [.nilFunc], .other⟩ := by kernel_rfl
theorem ty_78 : tiOf Try.prog 78 = some ⟨1, false, 8, [.nilFunc], .other⟩ := by kernel_rfl
theorem ty_79 : tiOf Try.prog 79 = some ⟨1, false, 8, [.int .u64 0], .int .u64⟩ := by kernel_rfl
theorem ty_80 : tiOf Try.prog 80 = some ⟨1, false, 8, [.nilFunc], .other⟩ := by kernel_rfl
theorem ty_81 : tiOf Try.prog 81 = some ⟨1, false, 8, [.nilFunc], .other⟩ := by kernel_rfl
theorem ty_82 : tiOf Try.prog 82 = some ⟨1, false, 8, [.nilFunc], .other⟩ := by kernel_rfl
theorem ty_83 : tiOf Try.prog 83 = some ⟨1, false, 8, [.nilFunc], .other⟩ := by kernel_rfl
theorem ty_84 : tiOf Try.prog 84 = some ⟨1, false, 8, [.int .i64 0], .int .i64⟩ := by kernel_rfl
theorem ty_86 : tiOf Try.prog 86 = some ⟨1, false, 8, [.nilFunc], .other⟩ := by kernel_rfl
theorem ty_87 : tiOf Try.prog 87 = some ⟨1, false, 8, [.nilFunc], .other⟩ := by kernel_rfl
theorem ty_88 : tiOf Try.prog 88 = some ⟨1, false, 8, [.nilFunc], .other⟩ := by kernel_rfl
theorem ty_90 : tiOf Try.prog 90 = some ⟨1, false, 8, [.nilFunc], .other⟩ := by kernel_rfl
theorem ty_91 : tiOf Try.prog 91 = some ⟨1, false, 8, [.nilFunc], .other⟩ := by kernel_rfl
theorem ty_92 : tiOf Try.prog 92 = some ⟨1, false, 4, [.int .u32 0], .int .u32⟩ := by kernel_rfl
theorem ty_93 : tiOf Try.prog 93 = some ⟨1, false, 8, [.nilFunc], .other⟩ := by kernel_rfl
theorem ty_94 : tiOf Try.prog 94 = some ⟨1, false, 8, [.int .u64 0], .int .u64⟩ := by kernel_rfl
theorem ty_95 : tiOf Try.prog 95 = some ⟨1, false, 8, [.nilFunc], .other⟩ := by kernel_rfl
theorem ty_96 : tiOf Try.prog 96 = some ⟨1, false, 8, [.nilFunc], .other⟩ := by kernel_rfl
theorem ty_97 : tiOf Try.prog 97 = some ⟨1, false, 8, [.nilFunc], .other⟩ := by kernel_rfl
theorem ty_98 : tiOf Try.prog 98 = some ⟨1, false, 8, [.pointer none], .other⟩ := by kernel_rfl
theorem ty_99 : tiOf Try.prog 99 = some ⟨1, false, 8, [.nilFunc], .other⟩ := by kernel_rfl
theorem ty_100 : tiOf Try.prog 100 = some ⟨1, false, 8, [.pointer none], .other⟩ := by kernel_rfl
theorem ty_102 : tiOf Try.prog 102 = some ⟨1, false, 8, [.nilFunc], .other⟩ := by kernel_rfl
theorem ty_103 : tiOf Try.prog 103 = some ⟨1, false, 8, [.nilFunc], .other⟩ := by kernel_rfl
theorem ty_104 : tiOf Try.prog 104 = some ⟨4, true, 40, [.pointer none, .pointer none, .pointer none, .string ByteArray.empty], .struct [(0, 1, false), (1, 1, false), (2, 1, false), (3, 1, false)]⟩ := by kernel_rfl
theorem ty_105 : tiOf Try.prog 105 = some ⟨4, true, 40, [.pointer none, .pointer none, .pointer none, .string ByteArray.empty], .struct [(0, 1, false), (1, 1, false), (2, 1, false), (3, 1, false)]⟩ := by kernel_rfl
theorem ty_106 : tiOf Try.prog 106 = some ⟨0, true, 0, [], .array 0 1 false⟩ := by kernel_rfl
theorem ty_107 : tiOf Try.prog 107 = some ⟨0, true, 0, [], .struct [(0, 0, true)]⟩ := by kernel_rfl
theorem ty_108 : tiOf Try.prog 108 = some ⟨0, true, 0, [], .struct [(0, 0, true)]⟩ := by kernel_rfl
theorem ty_109 : tiOf Try.prog 109 = some ⟨1, false, 8, [.nilFunc], .other⟩ := by kernel_rfl
theorem ty_110 : tiOf Try.prog 110 = some ⟨1, false, 1, [.int .u8 0], .int .u8⟩ := by kernel_rfl
theorem ty_111 : tiOf Try.prog 111 = some ⟨1, false, 1, [.int .u8 0], .int .u8⟩ := by kernel_rfl
theorem ty_112 : tiOf Try.prog 112 = some ⟨1, false, 8, [.nilFunc], .other⟩ := by kernel_rfl
theorem ty_113 : tiOf Try.prog 113 = some ⟨1, false, 8, [.pointer none], .other⟩ := by kernel_rfl
theorem ty_114 : tiOf Try.prog 114 = some ⟨1, false, 4, [.int .i32 0], .int .i32⟩ := by kernel_rfl
theorem ty_115 : tiOf Try.prog 115 = some ⟨1, false, 4, [.int .i32 0], .int .i32⟩ := by kernel_rfl
theorem ty_116 : tiOf Try.prog 116 = some ⟨11, true, 48, [.int .u64 0, .int .u64 0, .int .u32 0, .int .u8 0, .int .u8 0, .int .u8 0, .int .u8 0, .nilFunc, .pointer none, .int .i32 0, .int .i32 0], .struct [(0, 1, false), (1, 1, false), (2, 1, false), (3, 1, false), (4, 1, false), (5, 1, false), (6, 1, false), (7, 1, false), (8, 1, false), (9, 1, false), (10, 1, false)]⟩ := by kernel_rfl
theorem ty_117 : tiOf Try.prog 117 = some ⟨11, true, 48, [.int .u64 0, .int .u64 0, .int .u32 0, .int .u8 0, .int .u8 0, .int .u8 0, .int .u8 0, .nilFunc, .pointer none, .int .i32 0, .int .i32 0], .struct [(0, 1, false), (1, 1, false), (2, 1, false), (3, 1, false), (4, 1, false), (5, 1, false), (6, 1, false), (7, 1, false), (8, 1, false), (9, 1, false), (10, 1, false)]⟩ := by kernel_rfl
def tyL : List (Nat × TI) := [
  (1, ⟨1, false, 8, [.nilFunc], .other⟩),
  (2, ⟨1, false, 8, [.int .i64 0], .int .i64⟩),
  (3, ⟨1, false, 8, [.int .i64 0], .int .i64⟩),
  (4, ⟨1, false, 1, [.bool false], .bool⟩),
  (5, ⟨1, false, 1, [.int .u8 0], .int .u8⟩),
  (6, ⟨1, false, 1, [.int .u8 0], .int .u8⟩),
  (7, ⟨4, true, 24, [.int .i64 0, .int .i64 0, .bool false, .int .u8 0], .struct [(0, 1, false), (1, 1, false), (2, 1, false), (3, 1, false)]⟩),
  (8, ⟨4, true, 24, [.int .i64 0, .int .i64 0, .bool false, .int .u8 0], .struct [(0, 1, false), (1, 1, false), (2, 1, false), (3, 1, false)]⟩),
  (9, ⟨1, false, 16, [.string ByteArray.empty], .str⟩),
  (10, ⟨1, false, 16, [.string ByteArray.empty], .str⟩),
  (11, ⟨1, false, 16, [.string ByteArray.empty], .str⟩),
  (12, ⟨1, false, 8, [.int .u64 0], .int .u64⟩),
  (13, ⟨2, true, 24, [.string ByteArray.empty, .int .u64 0], .struct [(0, 1, false), (1, 1, false)]⟩),
  (14, ⟨2, true, 24, [.string ByteArray.empty, .int .u64 0], .struct [(0, 1, false), (1, 1, false)]⟩),
  (15, ⟨1, false, 8, [.pointer none], .other⟩),
  (16, ⟨1, false, 8, [.pointer none], .other⟩),
  (17, ⟨1, false, 8, [.pointer none], .other⟩),
  (18, ⟨1, true, 8, [.pointer none], .struct [(0, 1, false)]⟩),
  (19, ⟨1, true, 8, [.pointer none], .struct [(0, 1, false)]⟩),
  (21, ⟨1, false, 4, [.int .i32 0], .int .i32⟩),
  (22, ⟨1, false, 24, [.slice none 0 0], .slice 5 1 1 [.int .u8 0]⟩),
  (23, ⟨1, false, 8, [.nilFunc], .other⟩),
  (24, ⟨1, false, 24, [.slice none 0 0], .slice 2 1 8 [.int .i64 0]⟩),
  (25, ⟨5, true, 72, [.int .i64 0, .int .i64 0, .int .i64 0, .slice none 0 0, .slice none 0 0], .struct [(0, 1, false), (1, 1, false), (2, 1, false), (3, 1, false), (4, 1, false)]⟩),
  (26, ⟨5, true, 72, [.int .i64 0, .int .i64 0, .int .i64 0, .slice none 0 0, .slice none 0 0], .struct [(0, 1, false), (1, 1, false), (2, 1, false), (3, 1, false), (4, 1, false)]⟩),
  (28, ⟨1, false, 8, [.nilFunc], .other⟩),
  (29, ⟨5, true, 40, [.int .i64 0, .int .i64 0, .int .i64 0, .int .i64 0, .int .i64 0], .struct [(0, 1, false), (1, 1, false), (2, 1, false), (3, 1, false), (4, 1, false)]⟩),
  (30, ⟨5, true, 40, [.int .i64 0, .int .i64 0, .int .i64 0, .int .i64 0, .int .i64 0], .struct [(0, 1, false), (1, 1, false), (2, 1, false), (3, 1, false), (4, 1, false)]⟩),
  (32, ⟨1, false, 8, [.nilFunc], .other⟩),
  (33, ⟨1, false, 8, [.nilFunc], .other⟩),
  (34, ⟨1, false, 8, [.nilFunc], .other⟩),
  (36, ⟨1, false, 8, [.nilFunc], .other⟩),
  (38, ⟨1, false, 8, [.nilFunc], .other⟩),
  (39, ⟨1, false, 8, [.nilFunc], .other⟩),
  (40, ⟨1, false, 24, [.slice none 0 0], .slice 24 1 24 [.slice none 0 0]⟩),
  (42, ⟨1, false, 8, [.nilFunc], .other⟩),
  (43, ⟨1, false, 8, [.nilFunc], .other⟩),
  (44, ⟨1, false, 8, [.nilFunc], .other⟩),
  (45, ⟨1, false, 8, [.nilFunc], .other⟩),
  (46, ⟨1, false, 8, [.nilFunc], .other⟩),
  (47, ⟨1, false, 8, [.nilFunc], .other⟩),
  (48, ⟨1, false, 8, [.nilFunc], .other⟩),
  (49, ⟨1, false, 8, [.nilFunc], .other⟩),
  (50, ⟨1, false, 8, [.nilFunc], .other⟩),
  (51, ⟨1, false, 8, [.pointer none], .other⟩),
  (52, ⟨1, false, 8, [.nilFunc], .other⟩),
  (53, ⟨1, false, 8, [.nilFunc], .other⟩),
  (54, ⟨1, false, 8, [.nilFunc], .other⟩),
  (55, ⟨1, false, 8, [.nilFunc], .other⟩),
  (56, ⟨1, false, 8, [.nilFunc], .other⟩),
  (57, ⟨1, false, 8, [.nilFunc], .other⟩),
  (58, ⟨1, false, 8, [.nilFunc], .other⟩),
  (59, ⟨1, false, 8, [.pointer none], .other⟩),
  (60, ⟨1, false, 24, [.slice none 0 0], .slice 3 1 8 [.int .i64 0]⟩),
  (61, ⟨1, false, 8, [.nilFunc], .other⟩),
  (62, ⟨1, false, 8, [.nilFunc], .other⟩),
  (63, ⟨1, false, 8, [.nilFunc], .other⟩),
  (64, ⟨1, false, 8, [.nilFunc], .other⟩),
  (65, ⟨1, false, 8, [.nilFunc], .other⟩),
  (66, ⟨1, false, 8, [.nilFunc], .other⟩),
  (67, ⟨1, false, 8, [.nilFunc], .other⟩),
  (68, ⟨1, false, 8, [.nilFunc], .other⟩),
  (69, ⟨1, false, 8, [.nilFunc], .other⟩),
  (70, ⟨1, false, 8, [.nilFunc], .other⟩),
  (71, ⟨1, false, 8, [.nilFunc], .other⟩),
  (72, ⟨1, false, 8, [.nilFunc], .other⟩),
  (73, ⟨1, false, 8, [.int .u64 0], .int .u64⟩),
  (74, ⟨3, true, 40, [.slice none 0 0, .int .i64 0, .int .u64 0], .struct [(0, 1, false), (1, 1, false), (2, 1, false)]⟩),
  (75, ⟨3, true, 40, [.slice none 0 0, .int .i64 0, .int .u64 0], .struct [(0, 1, false), (1, 1, false), (2, 1, false)]⟩),
  (76, ⟨1, false, 8, [.nilFunc], .other⟩),
  (77, ⟨1, false, 8, [.nilFunc], .other⟩),
  (78, ⟨1, false, 8, [.nilFunc], .other⟩),
  (79, ⟨1, false, 8, [.int .u64 0], .int .u64⟩),
  (80, ⟨1, false, 8, [.nilFunc], .other⟩),
  (81, ⟨1, false, 8, [.nilFunc], .other⟩),
  (82, ⟨1, false, 8, [.nilFunc], .other⟩),
  (83, ⟨1, false, 8, [.nilFunc], .other⟩),
  (84, ⟨1, false, 8, [.int .i64 0], .int .i64⟩),
  (86, ⟨1, false, 8, [.nilFunc], .other⟩),
  (87, ⟨1, false, 8, [.nilFunc], .other⟩),
  (88, ⟨1, false, 8, [.nilFunc], .other⟩),
  (90, ⟨1, false, 8, [.nilFunc], .other⟩),
  (91, ⟨1, false, 8, [.nilFunc], .other⟩),
  (92, ⟨1, false, 4, [.int .u32 0], .int .u32⟩),
  (93, ⟨1, false, 8, [.nilFunc], .other⟩),
  (94, ⟨1, false, 8, [.int .u64 0], .int .u64⟩),
  (95, ⟨1, false, 8, [.nilFunc], .other⟩),
  (96, ⟨1, false, 8, [.nilFunc], .other⟩),
  (97, ⟨1, false, 8, [.nilFunc], .other⟩),
  (98, ⟨1, false, 8, [.pointer none], .other⟩),
  (99, ⟨1, false, 8, [.nilFunc], .other⟩),
  (100, ⟨1, false, 8, [.pointer none], .other⟩),
  (102, ⟨1, false, 8, [.nilFunc], .other⟩),
  (103, ⟨1, false, 8, [.nilFunc], .other⟩),
  (104, ⟨4, true, 40, [.pointer none, .pointer none, .pointer none, .string ByteArray.empty], .struct [(0, 1, false), (1, 1, false), (2, 1, false), (3, 1, false)]⟩),
  (105, ⟨4, true, 40, [.pointer none, .pointer none, .pointer none, .string ByteArray.empty], .struct [(0, 1, false), (1, 1, false), (2, 1, false), (3, 1, false)]⟩),
  (106, ⟨0, true, 0, [], .array 0 1 false⟩),
  (107, ⟨0, true, 0, [], .struct [(0, 0, true)]⟩),
  (108, ⟨0, true, 0, [], .struct [(0, 0, true)]⟩),
  (109, ⟨1, false, 8, [.nilFunc], .other⟩),
  (110, ⟨1, false, 1, [.int .u8 0], .int .u8⟩),
  (111, ⟨1, false, 1, [.int .u8 0], .int .u8⟩),
  (112, ⟨1, false, 8, [.nilFunc], .other⟩),
  (113, ⟨1, false, 8, [.pointer none], .other⟩),
  (114, ⟨1, false, 4, [.int .i32 0], .int .i32⟩),
  (115, ⟨1, false, 4, [.int .i32 0], .int .i32⟩),
  (116, ⟨11, true, 48, [.int .u64 0, .int .u64 0, .int .u32 0, .int .u8 0, .int .u8 0, .int .u8 0, .int .u8 0, .nilFunc, .pointer none, .int .i32 0, .int .i32 0], .struct [(0, 1, false), (1, 1, false), (2, 1, false), (3, 1, false), (4, 1, false), (5, 1, false), (6, 1, false), (7, 1, false), (8, 1, false), (9, 1, false), (10, 1, false)]⟩),
  (117, ⟨11, true, 48, [.int .u64 0, .int .u64 0, .int .u32 0, .int .u8 0, .int .u8 0, .int .u8 0, .int .u8 0, .nilFunc, .pointer none, .int .i32 0, .int .i32 0], .struct [(0, 1, false), (1, 1, false), (2, 1, false), (3, 1, false), (4, 1, false), (5, 1, false), (6, 1, false), (7, 1, false), (8, 1, false), (9, 1, false), (10, 1, false)]⟩)]
theorem ty_all : allTy Try.prog tyL := ⟨ty_1, ty_2, ty_3, ty_4, ty_5, ty_6, ty_7, ty_8, ty_9, ty_10, ty_11, ty_12, ty_13, ty_14, ty_15, ty_16, ty_17, ty_18, ty_19, ty_21, ty_22, ty_23, ty_24, ty_25, ty_26, ty_28, ty_29, ty_30, ty_32, ty_33, ty_34, ty_36, ty_38, ty_39, ty_40, ty_42, ty_43, ty_44, ty_45, ty_46, ty_47, ty_48, ty_49, ty_50, ty_51, ty_52, ty_53, ty_54, ty_55, ty_56, ty_57, ty_58, ty_59, ty_60, ty_61, ty_62, ty_63, ty_64, ty_65, ty_66, ty_67, ty_68, ty_69, ty_70, ty_71, ty_72, ty_73, ty_74, ty_75, ty_76, ty_77, ty_78, ty_79, ty_80, ty_81, ty_82, ty_83, ty_84, ty_86, ty_87, ty_88, ty_90, ty_91, ty_92, ty_93, ty_94, ty_95, ty_96, ty_97, ty_98, ty_99, ty_100, ty_102, ty_103, ty_104, ty_105, ty_106, ty_107, ty_108, ty_109, ty_110, ty_111, ty_112, ty_113, ty_114, ty_115, ty_116, ty_117, trivial⟩
theorem ty {t : Nat} {i : TI} (h : look tyL t = some i) : tiOf Try.prog t = some i := look_allTy ty_all h
theorem mixed : Try.prog.follows .mixedOrders = true := by kernel_rfl
end Go.Proofs.Ytljpgbgokjiamaa.Aw

namespace Go.Proofs.Ytljpgbgokjiamaa.Aw
open Go Go.RowKit
def memOf (H : Hp) (av : AV) (cells : List AV) : Prop :=
  av = .dptr cells ∨ ∃ id row col b r, av = .ptr id row col ∧ look H id = some b ∧ b.rows[row]? = some r ∧ cells = r.drop col
section
variable {P : Program} {Old : Nat → Prop} {wi : WI Old} {K : Nat → Prop} {m : Nat → Loc} {S : Nat → Prop} {H : Hp} {w : World} {N n : Nat} {T : Tp} {o : Oper}
theorem rd_at {av : AV} {x : Value} {cells : List AV} (hr : Rel Old wi K m S H w) (hv : VR K w m S av x) (hc : memOf H av cells) :
    ∃ g p, x = .pointer (some ⟨g, p, none⟩) ∧ ∀ (j : Nat) (cv : AV), cells[j]? = some cv → ∃ y, w.cell? ⟨g, p + j, none⟩ = some y ∧ y.oneCell' = true ∧ VR K w m S cv y := by
  rcases hc with rfl | ⟨id, row, col, b, r, rfl, hl, hrow, rfl⟩
  · cases hv with
    | dptr _ _ b p xs hk hx hv =>
      exact ⟨b, p, rfl, fun j cv hj => ⟨xs j, (hx j cv hj).1, (hx j cv hj).2, (hv j cv hj).mono (fun _ h => h) (fun _ _ => rfl) (fun _ h => h.elim) (fun _ h => h.elim)⟩⟩
  · cases hv with
    | ptr _ _ _ _ p hs hp =>
      refine ⟨_, p, rfl, fun j cv hj => ?_⟩
      have hb := ((hr.own id b hl).real hrow).2
      obtain ⟨cur, h1, h2, h3⟩ := hb.ex
      rw [List.getElem?_drop] at hj
      obtain ⟨y, hy, hone, hvy⟩ := (h3 row r hrow).2 (col + j) cv hj
      refine ⟨y, ?_, hone, hvy.mono (fun _ h => h) (fun _ _ => rfl) (fun _ h => h.1) (fun _ _ => rfl)⟩
      rw [cell_of_row w _ _ _ _ _ h1, hp, hb.sz, Nat.add_assoc]
      exact hy
theorem s_move {x : Operand} {av : AV} (ho : o.op = .move x ∨ o.op = .assign x) (hx : evalA T x = some av) : Step P o N T H n av H n true :=
  Step.still fun Old wi K m S a w hr ht => ⟨_, by rcases ho with ho | ho <;> simp only [execOp, ho] <;> rfl, ht.eval hx⟩
theorem s_pick {c x y : Operand} {t : Bool} {av : AV} (ho : o.op = .pick c x y) (hc : evalA T c = some (.v (.bool t))) (hx : evalA T (if t then x else y) = some av) : Step P o N T H n av H n true :=
  Step.still fun Old wi K m S a w hr ht => by
    have h1 := ht.eval hc
    have h2 := ht.eval hx
    generalize hg : a.eval c = cv at h1
    cases h1
    refine ⟨_, ?_, h2⟩
    simp only [execOp, ho, hg, asBool]
    cases t <;> rfl
theorem s_alloc {t : TypeId} {ti : TI} (ho : o.op = .alloc t) (hty : tiOf P t = some ti) (hz : ti.zero.length = ti.cells) (h1 : ti.zero.all (·.oneCell') = true) :
    Step P o N T H n (.ptr n 0 0) ((n, ⟨t, ti.cells, false, [ti.zero.map .v]⟩) :: H) (n + 1) true := by
  obtain ⟨i, d, z, hi, hd, hzz, hsz, hagg, hby, hzl, htk⟩ := tiOf_spec hty
  refine Step.new ⟨t, ti.cells, false, [ti.zero.map .v]⟩ (fun h => by cases h) fun Old wi K m S a w hr ht => ?_
  have hzs : z.cells.size = ti.cells := by rw [← hz, ← hzl]; simp
  refine ⟨.pointer (some ⟨w.heap.size, 0, none⟩), w.drawn, 1, z.cells, ?_, by simp, by simp [maxLen], by simp [hzs], ?_, ?_⟩
  · simp only [execOp, ho, Instr.alloc, Sem.run_bind, zeroValue, run_typeInfo w hi, Result.andThen, hzz, Sem.run_pure]
    rfl
  · intro r row hrow
    cases r with
    | succ r => simp at hrow
    | zero =>
      simp only [List.getElem?_cons_zero, Option.some.injEq] at hrow
      subst hrow
      refine ⟨by simp [hz], fun j cv hj => ?_⟩
      rw [List.getElem?_map] at hj
      cases hzj : ti.zero[j]? with
      | none => simp [hzj] at hj
      | some y =>
        simp only [hzj, Option.map_some, Option.some.injEq] at hj
        subst hj
        refine ⟨y, by rw [Nat.zero_mul, Nat.zero_add, ← Array.getElem?_toList, hzl]; exact hzj, ?_, .v _ y⟩
        exact List.all_eq_true.1 h1 y (List.mem_of_getElem? hzj)
  · intro m' w' hm
    have hb : (m' n).blk = w.heap.size := by rw [hm]
    rw [← hb]
    exact .ptr _ n 0 0 0 (.inr ⟨Nat.le_refl _, Nat.lt_succ_self _⟩) (by simp)
theorem s_box {t : TypeId} {x : Operand} {av : AV} (ho : o.op = .box t x) (hx : evalA T x = some av) (h1 : (cellsA av).all AV.one = true) :
    Step P o N T H n (.ptr n 0 0) ((n, ⟨t, (cellsA av).length, false, [cellsA av]⟩) :: H) (n + 1) true := by
  refine Step.new ⟨t, (cellsA av).length, false, [cellsA av]⟩ (fun h => by cases h) fun Old wi K m S a w hr ht => ?_
  have hv := ht.eval hx
  obtain ⟨hl, hc⟩ := hv.cells
  refine ⟨.pointer (some ⟨w.heap.size, 0, none⟩), w.drawn, 1, (a.eval x).cells, ?_, by simp, by simp [maxLen], by rw [Nat.one_mul, ← hl]; simp, ?_, ?_⟩
  · simp only [execOp, ho, Instr.box, Sem.run_bind, Result.andThen, Sem.run_pure]
    rfl
  · intro r row hrow
    cases r with
    | succ r => simp at hrow
    | zero =>
      simp only [List.getElem?_cons_zero, Option.some.injEq] at hrow
      subst hrow
      refine ⟨rfl, fun j cv hj => ?_⟩
      have hlt : j < (a.eval x).cells.toList.length := by rw [hl]; exact (List.getElem?_eq_some_iff.1 hj).1
      have hy := List.getElem?_eq_getElem hlt
      have hvy := hc j cv _ hj hy
      refine ⟨_, by rw [Nat.zero_mul, Nat.zero_add, ← Array.getElem?_toList]; exact hy, ?_, hvy.mono (fun _ h => h) (fun _ _ => rfl) (fun _ h => ⟨h, rfl⟩) (fun _ _ => rfl)⟩
      exact hvy.one (List.all_eq_true.1 h1 cv (List.mem_of_getElem? hj))
  · intro m' w' hm
    have hb : (m' n).blk = w.heap.size := by rw [hm]
    rw [← hb]
    exact .ptr _ n 0 0 0 (.inr ⟨Nat.le_refl _, Nat.lt_succ_self _⟩) (by simp)
theorem run_isAgg {t : TypeId} {d : TypeDesc} (w : World) (h : P.underlying t = some d) : (isAgg t).run P w = .ok (aggD d) w := by
  simp only [isAgg, Sem.run_bind, run_underlying h, Result.andThen]
  cases d <;> rfl
theorem s_load_agg {t : TypeId} {ti : TI} {x : Operand} {av : AV} {cells : List AV} (ho : o.op = .load t x) (hty : tiOf P t = some ti) (hx : evalA T x = some av) (hc : memOf H av cells)
    (ha : ti.agg = true) (hn : ti.cells ≤ cells.length) : Step P o N T H n (.agg (cells.take ti.cells)) H n true := by
  obtain ⟨i, d, z, hi, hd, hzz, hsz, hagg, hby, hzl, htk⟩ := tiOf_spec hty
  refine Step.still fun Old wi K m S a w hr ht => ?_
  obtain ⟨g, p, hp, hrd⟩ := rd_at hr (ht.eval hx) hc
  have hf : ∀ j, j < ti.cells → ∃ cv y, cells[j]? = some cv ∧ w.cell? ⟨g, p + j, none⟩ = some y ∧ VR K w m S cv y := fun j hj => by
    have hlt : j < cells.length := by omega
    obtain ⟨y, hy, _, hvy⟩ := hrd j _ (List.getElem?_eq_getElem hlt)
    exact ⟨_, y, List.getElem?_eq_getElem hlt, hy, hvy⟩
  let f : Nat → Value := fun j => (w.cell? ⟨g, p + j, none⟩).getD undef
  have hrun : (loadCells ⟨g, p, none⟩ ti.cells).run P w = .ok ((List.range ti.cells).map f).toArray w := by
    refine run_loadCells w _ ti.cells f fun j hj => ?_
    obtain ⟨cv, y, _, hy, _⟩ := hf j hj
    rw [Go.WideShapes.add_plain]
    simp only [f, hy, Option.getD_some]
  refine ⟨.agg ((List.range ti.cells).map f).toArray, ?_, ?_⟩
  · simp only [execOp, ho, hp, Instr.loadAt, Instr.sureAddr, Sem.run_bind, Sem.run_pure, Result.andThen, loadVar, run_isAgg w hd, hagg, ha, if_true, run_sizeOf w hi, Program.cellsOf, hi, Option.map_some, Option.getD_some, hsz, hrun]
  · refine .agg _ _ _ (by simp; omega) fun j cv y h1 h2 => ?_
    rw [List.getElem?_take] at h1
    split at h1
    · rename_i hj
      obtain ⟨cv', y', hc', hy', hv'⟩ := hf j hj
      rw [h1] at hc'
      simp only [Option.some.injEq] at hc'
      subst hc'
      rw [List.getElem?_map, List.getElem?_range hj] at h2
      simp only [f, hy', Option.getD_some, Option.map_some, Option.some.injEq] at h2
      subst h2
      exact hv'
    · cases h1
theorem s_load_one {t : TypeId} {ti : TI} {x : Operand} {av c : AV} {cells : List AV} (ho : o.op = .load t x) (hty : tiOf P t = some ti) (hx : evalA T x = some av) (hc : memOf H av (c :: cells))
    (ha : ti.agg = false) : Step P o N T H n c H n true := by
  obtain ⟨i, d, z, hi, hd, hzz, hsz, hagg, hby, hzl, htk⟩ := tiOf_spec hty
  refine Step.still fun Old wi K m S a w hr ht => ?_
  obtain ⟨g, p, hp, hrd⟩ := rd_at hr (ht.eval hx) hc
  obtain ⟨y, hy, _, hvy⟩ := hrd 0 c rfl
  rw [Nat.add_zero] at hy
  refine ⟨y, ?_, hvy⟩
  simp only [execOp, ho, hp, Instr.loadAt, Instr.sureAddr, Sem.run_bind, Sem.run_pure, Result.andThen, loadVar, run_isAgg w hd, hagg, ha]
  simp [load, Sem.run, hy]
end
end Go.Proofs.Ytljpgbgokjiamaa.Aw

-- The operations, one by one, said of the abstract state: addresses, parts, arithmetic, stores.
namespace Go.Proofs.Ytljpgbgokjiamaa.Aw
open Go Go.RowKit
section
variable {P : Program} {Old : Nat → Prop} {wi : WI Old} {K : Nat → Prop} {m : Nat → Loc} {S : Nat → Prop} {H : Hp} {w : World} {N n : Nat} {T : Tp} {o : Oper}
def shiftA : AV → Nat → Option AV
  | .dptr cells, k => some (.dptr (cells.drop k))
  | .ptr id row col, k => some (.ptr id row (col + k))
  | _, _ => none
theorem VR.shift {av av' : AV} {x : Value} {k : Nat} (h : VR K w m S av x) (hs : shiftA av k = some av') :
    ∃ g p, x = .pointer (some ⟨g, p, none⟩) ∧ VR K w m S av' (.pointer (some ⟨g, p + k, none⟩)) := by
  cases h with
  | dptr _ cells b p xs hk hx hv =>
    simp only [shiftA, Option.some.injEq] at hs
    subst hs
    refine ⟨b, p, rfl, .dptr _ _ b (p + k) (fun j => xs (k + j)) hk (fun j cv hj => ?_) (fun j cv hj => ?_)⟩
    · rw [List.getElem?_drop] at hj
      rw [Nat.add_assoc]
      exact hx _ _ hj
    · rw [List.getElem?_drop] at hj
      exact hv _ _ hj
  | ptr _ id row col p hS hp =>
    simp only [shiftA, Option.some.injEq] at hs
    subst hs
    exact ⟨_, p, rfl, .ptr _ id row (col + k) _ hS (by omega)⟩
  | _ => simp [shiftA] at hs
theorem tk_struct {d : TypeDesc} {fs : List (Nat × Nat × Bool)} (h : tkOf P d = .struct fs) :
    ∃ fields, d = .struct fields ∧ fs = fields.toList.map (fun f => (f.offset, P.cellsOf f.type, isAggP P f.type)) ∧ fields.all (fun f => (P.underlying f.type).isSome && (P.info? f.type).isSome) = true := by
  cases d <;> simp only [tkOf] at h
  case struct fields =>
    split at h
    · rename_i ha
      injection h with h
      exact ⟨fields, rfl, h.symm, ha⟩
    · cases h
  case slice => split at h <;> (try split at h) <;> cases h
  case array => split at h <;> cases h
  all_goals cases h
theorem tk_field {fields : Array Field} {fs : List (Nat × Nat × Bool)} {f off size : Nat} {agg : Bool} (hfs : fs = fields.toList.map (fun f => (f.offset, P.cellsOf f.type, isAggP P f.type)))
    (hall : fields.all (fun f => (P.underlying f.type).isSome && (P.info? f.type).isSome) = true) (hf : fs[f]? = some (off, size, agg)) :
    ∃ fl i d, fields[f]? = some fl ∧ fl.offset = off ∧ P.info? fl.type = some i ∧ P.underlying fl.type = some d ∧ i.size = size ∧ aggD d = agg := by
  subst hfs
  rw [List.getElem?_map] at hf
  cases hfl : fields.toList[f]? with
  | none => simp [hfl] at hf
  | some fl =>
    simp only [hfl, Option.map_some, Option.some.injEq, Prod.mk.injEq] at hf
    obtain ⟨h1, h2, h3⟩ := hf
    have hm : fl ∈ fields := by rw [← Array.mem_toList_iff]; exact List.mem_of_getElem? hfl
    have := Array.all_eq_true_iff_forall_mem.1 hall fl hm
    simp only [Bool.and_eq_true, Option.isSome_iff_exists] at this
    obtain ⟨⟨d, hd⟩, i, hi⟩ := this
    refine ⟨fl, i, d, by rw [← Array.getElem?_toList]; exact hfl, h1, hi, hd, ?_, ?_⟩
    · rw [← h2, Program.cellsOf, hi]; rfl
    · rw [← h3, isAggP, hd]
theorem s_fieldAddr {t : TypeId} {ti : TI} {x : Operand} {av av' : AV} {fs : List (Nat × Nat × Bool)} {f off size : Nat} {agg : Bool} (ho : o.op = .fieldAddr t x f) (hty : tiOf P t = some ti)
    (hx : evalA T x = some av) (hk : ti.k = .struct fs) (hf : fs[f]? = some (off, size, agg)) (hs : size ≠ 0) (hsh : shiftA av off = some av') : Step P o N T H n av' H n true := by
  obtain ⟨i, d, z, hi, hd, hzz, hsz, hagg, hby, hzl, htk⟩ := tiOf_spec hty
  rw [hk] at htk
  obtain ⟨fields, rfl, hfs, hall⟩ := tk_struct htk
  obtain ⟨fl, i', d', hfl, hoff, hi', hd', hsize, _⟩ := tk_field hfs hall hf
  refine Step.still fun Old wi K m S a w hr ht => ?_
  obtain ⟨g, p, hp, hv⟩ := (ht.eval hx).shift hsh
  refine ⟨_, ?_, hv⟩
  have h0 : ¬ i'.size = 0 := by rw [hsize]; exact hs
  simp only [execOp, ho, hp, Instr.fieldAt, Sem.run_bind, run_underlying hd, Result.andThen, hfl, Instr.sureAddr, Sem.run_pure, fieldPlace, run_sizeOf w hi', Program.cellsOf, hi', Option.map_some, Option.getD_some, h0, if_false]
  rw [Go.WideShapes.add_plain, hoff]
theorem tk_slice {d : TypeDesc} {e : TypeId} {es eb : Nat} {ez : List Value} (h : tkOf P d = .slice e es eb ez) :
    ∃ i z, d = .slice e ∧ P.info? e = some i ∧ i.zero = some z ∧ i.size = es ∧ i.bytes = eb ∧ z.cells.toList = ez := by
  cases d <;> simp only [tkOf] at h
  case slice e' =>
    split at h
    · rename_i i hi
      split at h
      · rename_i z hz
        injection h with h1 h2 h3 h4
        subst h1
        exact ⟨i, z, rfl, hi, hz, h2, h3, h4⟩
      · cases h
    · cases h
  case struct => split at h <;> cases h
  case array => split at h <;> cases h
  all_goals cases h
theorem s_index_dsl {t : TypeId} {ti : TI} {x y : Operand} {e : TypeId} {es eb : Nat} {ez : List Value} {rows : List (List AV)} {row : List AV} {k : IntKind} {q : Int} (ho : o.op = .indexAddr t x y) (hty : tiOf P t = some ti)
    (hk : ti.k = .slice e es eb ez) (hx : evalA T x = some (.dsl es rows)) (hy : evalA T y = some (.v (.int k q))) (h0 : 0 ≤ q) (h1 : q < rows.length) (hrow : rows[q.toNat]? = some row) :
    Step P o N T H n (.dptr row) H n true := by
  obtain ⟨i, d, z, hi, hd, hzz, hsz, hagg, hby, hzl, htk⟩ := tiOf_spec hty
  rw [hk] at htk
  obtain ⟨ei, ezz, rfl, hei, _, hes, _, _⟩ := tk_slice htk
  refine Step.still fun Old wi K m S a w _ ht => ?_
  have hv := ht.eval hx
  have hq := ht.eval hy
  generalize hxv : a.eval x = xv at hv
  generalize hyv : a.eval y = yv at hq
  cases hq
  cases hv with
  | dsl0 => exact absurd h1 (by simp; omega)
  | dsl _ _ _ rn b p c xs hn hc hK hl hx2 hv2 =>
    refine ⟨.pointer (some ⟨b, p + q.toNat * es, none⟩), ?_, .dptr _ row b _ (xs q.toNat) hK (fun j cv hj => hx2 _ _ _ _ hrow hj) (fun j cv hj => hv2 _ _ _ _ hrow hj)⟩
    subst hn
    simp only [execOp, ho, hxv, hyv, Instr.indexAt, asIntOf, Sem.run_bind, Sem.run_pure, run_underlying hd, Result.andThen]
    rw [if_pos ⟨h0, h1⟩]
    simp [run_sizeOf w hei, Program.cellsOf, hei, hes, Go.WideShapes.add_plain]
end
end Go.Proofs.Ytljpgbgokjiamaa.Aw

-- The operations, one by one, said of the abstract state: elements, arithmetic, stores, slices.
namespace Go.Proofs.Ytljpgbgokjiamaa.Aw
open Go Go.RowKit
section
variable {P : Program} {Old : Nat → Prop} {wi : WI Old} {K : Nat → Prop} {m : Nat → Loc} {S : Nat → Prop} {H : Hp} {w : World} {N n : Nat} {T : Tp} {o : Oper}
theorem s_index_sl {t : TypeId} {ti : TI} {x y : Operand} {e : TypeId} {es eb id row len : Nat} {ez : List Value} {b : Blk} {k : IntKind} {q : Int} (ho : o.op = .indexAddr t x y) (hty : tiOf P t = some ti)
    (hk : ti.k = .slice e es eb ez) (hx : evalA T x = some (.sl id row len)) (hl : look H id = some b) (hb : b.size = es) (hy : evalA T y = some (.v (.int k q))) (h0 : 0 ≤ q) (h1 : q < len) :
    Step P o N T H n (.ptr id (row + q.toNat) 0) H n true := by
  obtain ⟨i, d, z, hi, hd, hzz, hsz, hagg, hby, hzl, htk⟩ := tiOf_spec hty
  rw [hk] at htk
  obtain ⟨ei, ezz, rfl, hei, _, hes, _, _⟩ := tk_slice htk
  refine Step.still fun Old wi K m S a w hr ht => ?_
  have hv := ht.eval hx
  have hq := ht.eval hy
  generalize hxv : a.eval x = xv at hv
  generalize hyv : a.eval y = yv at hq
  cases hq
  cases hv with
  | sl0 _ _ _ ad hS => exact absurd h1 (by simp; omega)
  | sl _ _ _ _ p c hS hph hp hc =>
    refine ⟨.pointer (some ⟨(m id).blk, p + q.toNat * es, none⟩), ?_, .ptr _ id _ 0 _ hS ?_⟩
    · simp only [execOp, ho, hxv, hyv, Instr.indexAt, asIntOf, Sem.run_bind, Sem.run_pure, run_underlying hd, Result.andThen]
      rw [if_pos ⟨h0, h1⟩]
      simp [run_sizeOf w hei, Program.cellsOf, hei, hes, Go.WideShapes.add_plain]
    · rw [hp, ((hr.own id b hl).br hph).sz, hb, Nat.add_mul]
      rfl
theorem s_nilCheck {x : Operand} {av : AV} (ho : o.op = .nilCheck x) (hx : evalA T x = some av) (hc : (shiftA av 0).isSome = true ∨ ∃ f cs, av = .fn f cs) : Step P o N T H n av H n true :=
  Step.still fun Old wi K m S a w hr ht => by
    have hv := ht.eval hx
    refine ⟨_, ?_, hv⟩
    generalize hxv : a.eval x = xv at hv
    cases hv <;> simp only [execOp, ho, hxv] <;> first | rfl | (rcases hc with hc | ⟨_, _, hc⟩ <;> simp [shiftA] at hc)
def arith : BinOp → Option (Int → Int → Int)
  | .add => some (· + ·)
  | .sub => some (· - ·)
  | .mul => some (· * ·)
  | _ => none
def cmpI : BinOp → Option (Int → Int → Bool)
  | .eql => some (fun x y => x == y)
  | .neq => some (fun x y => x != y)
  | .lss => some (fun x y => decide (x < y))
  | .leq => some (fun x y => decide (x ≤ y))
  | .gtr => some (fun x y => decide (y < x))
  | .geq => some (fun x y => decide (y ≤ x))
  | _ => none
theorem s_two {x y : Operand} {op : BinOp} {t u : TypeId} {p q : Value} {r : Value} (ho : o.op = .binOp op t x y u) (hx : evalA T x = some (.v p)) (hy : evalA T y = some (.v q))
    (h : ∀ w, (do eqGuard op t x y p q; binOp op t p q : Sem Value).run P w = .ok r w) : Step P o N T H n (.v r) H n true :=
  Step.still fun Old wi K m S a w hr ht => by
    have hxx := ht.eval hx
    have hyy := ht.eval hy
    generalize hxv : a.eval x = xv at hxx
    generalize hyv : a.eval y = yv at hyy
    cases hxx
    cases hyy
    refine ⟨r, ?_, .v _ _⟩
    have := h w
    simp only [Sem.run_bind] at this
    simp only [execOp, ho, hxv, hyv, Sem.run_bind, Sem.run_pure]
    rw [this]
    rfl
theorem guard_int {op : BinOp} {t : TypeId} {x y : Operand} {k k' : IntKind} {p q : Int} : (eqGuard op t x y (.int k p) (.int k' q)).run P w = .ok () w := by
  cases op <;> rfl
theorem s_arith {x y : Operand} {op : BinOp} {t u : TypeId} {k : IntKind} {p q : Int} {f : Int → Int → Int} (ho : o.op = .binOp op t x y u) (hx : evalA T x = some (.v (.int k p))) (hy : evalA T y = some (.v (.int k q)))
    (hf : arith op = some f) : Step P o N T H n (.v (.int k (k.wrap (f p q)))) H n true :=
  s_two ho hx hy fun w => by
    cases op <;> simp only [arith, Option.some.injEq] at hf <;> try (cases hf)
    all_goals (simp only [Sem.run_bind, guard_int, Result.andThen]; simp [binOp, Op.intArith])
theorem s_cmpI {x y : Operand} {op : BinOp} {t u : TypeId} {k : IntKind} {p q : Int} {f : Int → Int → Bool} (ho : o.op = .binOp op t x y u) (hx : evalA T x = some (.v (.int k p))) (hy : evalA T y = some (.v (.int k q)))
    (hf : cmpI op = some f) : Step P o N T H n (.v (.bool (f p q))) H n true :=
  s_two ho hx hy fun w => by
    cases op <;> simp only [cmpI, Option.some.injEq] at hf <;> try (cases hf)
    all_goals (simp only [Sem.run_bind, guard_int, Result.andThen]; simp [binOp, Op.intCmp])
theorem s_quo {x y : Operand} {t u : TypeId} {k : IntKind} {p q : Int} (ho : o.op = .binOp .quo t x y u) (hx : evalA T x = some (.v (.int k p))) (hy : evalA T y = some (.v (.int k q)))
    (hq : q ≠ 0) : Step P o N T H n (.v (.int k (k.wrap (p.tdiv q)))) H n true :=
  s_two ho hx hy fun w => by
    simp only [Sem.run_bind, guard_int, Result.andThen]
    simp [binOp, Op.intDiv, hq]
theorem s_rem {x y : Operand} {t u : TypeId} {k : IntKind} {p q : Int} (ho : o.op = .binOp .rem t x y u) (hx : evalA T x = some (.v (.int k p))) (hy : evalA T y = some (.v (.int k q)))
    (hq : q ≠ 0) : Step P o N T H n (.v (.int k (p.tmod q))) H n true :=
  s_two ho hx hy fun w => by
    simp only [Sem.run_bind, guard_int, Result.andThen]
    simp [binOp, Op.intDiv, hq]
theorem s_not {x : Operand} {t : TypeId} {p : Bool} (ho : o.op = .unOp .not t x) (hx : evalA T x = some (.v (.bool p))) : Step P o N T H n (.v (.bool (!p))) H n true :=
  Step.still fun Old wi K m S a w hr ht => by
    have hxx := ht.eval hx
    generalize hxv : a.eval x = xv at hxx
    cases hxx
    exact ⟨_, by simp only [execOp, ho, hxv]; rfl, .v _ _⟩
theorem s_conv {x : Operand} {t u : TypeId} {ti tj : TI} {k k' : IntKind} {p : Int} (ho : o.op = .convert t u x) (hty : tiOf P u = some ti) (hk : ti.k = .int k') (hty2 : tiOf P t = some tj) (hx : evalA T x = some (.v (.int k p))) :
    Step P o N T H n (.v (.int k' (k'.wrap p))) H n true := by
  obtain ⟨i, d, z, hi, hd, hzz, hsz, hagg, hby, hzl, htk⟩ := tiOf_spec hty
  obtain ⟨i2, d2, z2, hi2, hd2, _⟩ := tiOf_spec hty2
  rw [hk] at htk
  have hdd : d = .int k' := by
    cases d <;> simp only [tkOf] at htk
    case int k => injection htk with h; rw [h]
    case struct => split at htk <;> cases htk
    case slice => split at htk <;> (try split at htk) <;> cases htk
    case array => split at htk <;> cases htk
    all_goals cases htk
  subst hdd
  refine Step.still fun Old wi K m S a w hr ht => ?_
  have hxx := ht.eval hx
  generalize hxv : a.eval x = xv at hxx
  cases hxx
  refine ⟨_, ?_, .v _ _⟩
  simp only [execOp, ho, hxv, convert, Sem.run_bind, run_underlying hd, run_underlying hd2, Result.andThen]
  cases d2 <;> rfl
theorem s_extract {x : Operand} {i : Nat} {vs : List AV} {av : AV} (ho : o.op = .extract x i) (hx : evalA T x = some (.tup vs)) (hi : vs[i]? = some av) : Step P o N T H n av H n true :=
  Step.still fun Old wi K m S a w hr ht => by
    have hxx := ht.eval hx
    generalize hxv : a.eval x = xv at hxx
    cases hxx with
    | tup _ _ xs hl hv =>
      have hlt : i < xs.length := by rw [hl]; exact (List.getElem?_eq_some_iff.1 hi).1
      have hy := List.getElem?_eq_getElem hlt
      refine ⟨_, ?_, hv i av _ hi hy⟩
      simp only [execOp, ho, hxv, Instr.extract, Sem.run_bind, List.getElem?_toArray, hy, Sem.run_pure, Result.andThen]
end
end Go.Proofs.Ytljpgbgokjiamaa.Aw

-- The operations, one by one, said of the abstract state: stores, made slices, slices of slices, lengths, functions.
namespace Go.Proofs.Ytljpgbgokjiamaa.Aw
open Go Go.RowKit
def setH (H : Hp) (id : Nat) (b : Blk) : Hp := (id, b) :: del H id
theorem look_setH {H : Hp} {id i : Nat} {b c : Blk} (h : look (setH H id b) i = some c) : look ((id, b) :: H) i = some c := by
  unfold setH at h
  simp only [look_cons] at h ⊢
  split
  · rename_i he; rw [if_pos he] at h; exact h
  · rename_i he; rw [if_neg he, look_del_ne H (fun e => he e.symm)] at h; exact h
theorem splice_get (A vs : List Value) (p i : Nat) (hp : p + vs.length ≤ A.length) :
    (A.take p ++ vs ++ A.drop (p + vs.length))[i]? = if i < p then A[i]? else if i < p + vs.length then vs[i - p]? else A[i]? := by
  have hl : (A.take p).length = p := by rw [List.length_take]; omega
  rw [List.append_assoc, List.getElem?_append, hl]
  split
  · rename_i h; rw [List.getElem?_take, if_pos h]
  · rename_i h
    rw [List.getElem?_append]
    split
    · rename_i h2; rw [if_pos (by omega)]
    · rename_i h2
      rw [if_neg (by omega), List.getElem?_drop]
      congr 1
      omega
def splice (r cs : List AV) (col : Nat) : List AV := r.take col ++ cs ++ r.drop (col + cs.length)
theorem spliceA_get (A vs : List AV) (p i : Nat) (hp : p + vs.length ≤ A.length) :
    (splice A vs p)[i]? = if i < p then A[i]? else if i < p + vs.length then vs[i - p]? else A[i]? := by
  unfold splice
  have hl : (A.take p).length = p := by rw [List.length_take]; omega
  rw [List.append_assoc, List.getElem?_append, hl]
  split
  · rename_i h; rw [List.getElem?_take, if_pos h]
  · rename_i h
    rw [List.getElem?_append]
    split
    · rename_i h2; rw [if_pos (by omega)]
    · rename_i h2
      rw [if_neg (by omega), List.getElem?_drop]
      congr 1
      omega
theorem splice_len (A vs : List AV) (p : Nat) (hp : p + vs.length ≤ A.length) : (splice A vs p).length = A.length := by
  unfold splice
  simp
  omega
theorem spl_plv {b : Blk} {row col : Nat} {r cs : List AV} (h : b.pl = true → ∀ (r : Nat) (row : List AV), b.rows[r]? = some row → ∀ (j : Nat) (cv : AV), row[j]? = some cv → isV cv = true) (hrow : b.rows[row]? = some r) (hcol : col + cs.length ≤ r.length) :
    (b.pl && cs.all isV) = true → ∀ (r' : Nat) (row' : List AV), (b.rows.set row (splice r cs col))[r']? = some row' → ∀ (j : Nat) (cv : AV), row'[j]? = some cv → isV cv = true := by
  intro hp r' row' h1 j cv hj
  simp only [Bool.and_eq_true] at hp
  rw [List.getElem?_set] at h1
  split at h1
  · rename_i he
    split at h1
    · simp only [Option.some.injEq] at h1
      subst h1
      rw [spliceA_get _ _ _ _ hcol] at hj
      split at hj
      · exact h hp.1 _ _ hrow _ _ hj
      · split at hj
        · exact List.all_eq_true.1 hp.2 cv (List.mem_of_getElem? hj)
        · exact h hp.1 _ _ hrow _ _ hj
    · cases h1
  · exact h hp.1 _ _ h1 _ _ hj
section
variable {P : Program} {Old : Nat → Prop} {wi : WI Old} {K : Nat → Prop} {m : Nat → Loc} {S : Nat → Prop} {H : Hp} {w : World} {N n : Nat} {T : Tp} {o : Oper}
theorem row_apart {r r' sz j p : Nat} (hj : j < sz) (hp : r * sz ≤ p) (hne : r' ≠ r) (hl : p < r * sz + sz) : r' * sz + j ≠ p := by
  rcases Nat.lt_or_gt_of_ne hne with h | h
  · have : (r' + 1) * sz ≤ r * sz := Nat.mul_le_mul_right _ h
    rw [Nat.add_mul] at this
    omega
  · have : (r + 1) * sz ≤ r' * sz := Nat.mul_le_mul_right _ h
    rw [Nat.add_mul] at this
    omega
theorem Rel.splice (hr : Rel Old wi K m S H w) {id row col : Nat} {b : Blk} {r cs : List AV} {ys : List Value} (hl : look H id = some b) (hrow : b.rows[row]? = some r) (hcol : col + cs.length ≤ r.length)
    (hys : ys.length = cs.length) (hone : ∀ y ∈ ys, y.oneCell' = true) (hv : ∀ (j : Nat) (cv : AV) (y : Value), cs[j]? = some cv → ys[j]? = some y → VR K w m S cv y) :
    ∃ cur p, w.heap[(m id).blk]? = some (.cells cur b.ty (0, 0)) ∧ p = row * (m id).size + col ∧ p + ys.length ≤ cur.size ∧
      Rel Old wi K m S (setH H id { b with pl := b.pl && cs.all isV, rows := b.rows.set row (Aw.splice r cs col) }) (w.setRow (m id).blk (cur.toList.take p ++ ys ++ cur.toList.drop (p + ys.length)).toArray) := by
  obtain ⟨hph, hb⟩ := (hr.own id b hl).real hrow
  obtain ⟨cur, h1, h2, h3⟩ := hb.ex
  have hrl := (h3 row r hrow).1
  have hrlt : row < b.rows.length := (List.getElem?_eq_some_iff.1 hrow).1
  have hcap : row < (m id).cap := Nat.lt_of_lt_of_le hrlt hb.cap
  have hfit : (row + 1) * b.size ≤ (m id).cap * b.size := Nat.mul_le_mul_right _ hcap
  rw [Nat.add_mul, Nat.one_mul] at hfit
  have hp : row * b.size + col + ys.length ≤ cur.size := by rw [h2]; omega
  have hpl : row * b.size + col + ys.length ≤ cur.toList.length := by simpa using hp
  refine ⟨cur, row * (m id).size + col, h1, rfl, by rw [hb.sz]; exact hp, ?_⟩
  rw [hb.sz]
  refine Rel.sub (H := (id, _) :: H) ?_ (fun i c h => look_setH h)
  refine hr.write hl hph _ rfl rfl rfl rfl rfl (by simp) (fun k hk => setRow_other _ _ _ _ hk) (setRow_heap _ _ _ _ _ _ h1) (by simpa using hb.cap) ?_ ?_ ?_
  · exact spl_plv hb.plv hrow hcol
  · rw [← h2]; simp; omega
  · intro r' row' hrow'
    rw [List.getElem?_set] at hrow'
    by_cases hrr : row = r'
    · subst hrr
      rw [if_pos rfl, if_pos hrlt] at hrow'
      simp only [Option.some.injEq] at hrow'
      subst hrow'
      refine ⟨by rw [splice_len _ _ _ hcol]; exact hrl, fun j cv hj => ?_⟩
      rw [spliceA_get _ _ _ _ hcol] at hj
      rw [List.getElem?_toArray, splice_get _ _ _ _ hpl]
      by_cases hj1 : j < col
      · rw [if_pos hj1] at hj
        rw [if_pos (by omega), Array.getElem?_toList]
        obtain ⟨x, hx, hone', hvx⟩ := (h3 row r hrow).2 j cv hj
        refine ⟨x, hx, hone', ?_⟩
        refine hvx.mono (fun _ h => h) (fun _ _ => rfl) (fun i hi => ⟨hi.1, by simp [hi.2]⟩) (fun _ _ => rfl)
      · rw [if_neg hj1] at hj
        rw [if_neg (by omega)]
        by_cases hj2 : j < col + cs.length
        · rw [if_pos hj2] at hj
          rw [if_pos (by omega)]
          have hlt : j - col < ys.length := by omega
          have hy := List.getElem?_eq_getElem hlt
          refine ⟨_, by rw [show row * b.size + j - (row * b.size + col) = j - col by omega]; exact hy, hone _ (List.getElem_mem _), ?_⟩
          have hvv := hv _ _ _ hj hy
          by_cases hall : cs.all isV = true
          · have := List.all_eq_true.1 hall cv (List.mem_of_getElem? hj)
            cases cv <;> simp only [isV] at this <;> try (cases this)
            cases hvv
            exact .v _ _
          · exact hvv.mono (fun _ h => h) (fun _ _ => rfl) (fun i hi => ⟨hi, by simp [hall]⟩) (fun _ _ => rfl)
        · rw [if_neg hj2] at hj
          rw [if_neg (by omega), Array.getElem?_toList]
          obtain ⟨x, hx, hone', hvx⟩ := (h3 row r hrow).2 j cv hj
          refine ⟨x, hx, hone', ?_⟩
          exact hvx.mono (fun _ h => h) (fun _ _ => rfl) (fun i hi => ⟨hi.1, by simp [hi.2]⟩) (fun _ _ => rfl)
    · rw [if_neg hrr] at hrow'
      refine ⟨(h3 r' row' hrow').1, fun j cv hj => ?_⟩
      obtain ⟨x, hx, hone', hvx⟩ := (h3 r' row' hrow').2 j cv hj
      have hjlt : j < b.size := by rw [← (h3 r' row' hrow').1]; exact (List.getElem?_eq_some_iff.1 hj).1
      refine ⟨x, ?_, hone', hvx.mono (fun _ h => h) (fun _ _ => rfl) (fun i hi => ⟨hi.1, by simp [hi.2]⟩) (fun _ _ => rfl)⟩
      rw [List.getElem?_toArray, splice_get _ _ _ _ hpl]
      by_cases ha : r' * b.size + j < row * b.size + col
      · rw [if_pos ha, Array.getElem?_toList]; exact hx
      · rw [if_neg ha]
        have hnot : ¬ (r' * b.size + j < row * b.size + col + ys.length) := fun hlt =>
          row_apart (p := r' * b.size + j) hjlt (by omega) (fun e => hrr e.symm) (by omega) rfl
        rw [if_neg hnot, Array.getElem?_toList]
        exact hx
theorem s_store {t : TypeId} {ti : TI} {x y : Operand} {id row col : Nat} {b : Blk} {r : List AV} {av : AV} (ho : o.op = .store t x y) (hty : tiOf P t = some ti) (hx : evalA T x = some (.ptr id row col))
    (hl : look H id = some b) (hrow : b.rows[row]? = some r) (hy : evalA T y = some av) (hn : (cellsA av).length = ti.cells) (hcol : col + ti.cells ≤ r.length) (h1 : (cellsA av).all AV.one = true) :
    Step P o N T H n (.v undef) (setH H id { b with pl := b.pl && (cellsA av).all isV, rows := b.rows.set row (splice r (cellsA av) col) }) n false := by
  obtain ⟨i, d, z, hi, hd, hzz, hsz, hagg, hby, hzl, htk⟩ := tiOf_spec hty
  refine ⟨Nat.le_refl _, fun Old wi K m S a w hS hr ht next Q hnx => ?_⟩
  have hv := ht.eval hx
  have hvy := ht.eval hy
  obtain ⟨hcl, hcv⟩ := hvy.cells
  have hone : ∀ y' ∈ (a.eval y).cells.toList, y'.oneCell' = true := by
    intro y' hy'
    obtain ⟨j, hj⟩ := List.mem_iff_getElem?.1 hy'
    have hlt : j < (cellsA av).length := by rw [← hcl]; exact (List.getElem?_eq_some_iff.1 hj).1
    have hc := List.getElem?_eq_getElem hlt
    exact (hcv j _ _ hc hj).one (List.all_eq_true.1 h1 _ (List.mem_of_getElem? hc))
  obtain ⟨cur, p, hg, hp, hfit, hrel⟩ := hr.splice hl hrow (by rw [hn]; exact hcol) hcl hone hcv
  generalize hxv : a.eval x = xv at hv
  cases hv with
  | ptr _ _ _ _ q hs hq =>
    have hpq : q = p := by rw [hp]; exact hq
    subst hpq
    have hst := run_storeCells_at P (m id).blk q b.ty (a.eval y).cells.toList 0 cur w hg (by simpa using hfit) hone
    unfold Oper.wp
    have hsize : (a.eval y).cells.size = ti.cells := by rw [← hn, ← hcl]; simp
    have hrun : (execOp a.eval o).run P w = .ok .skip (w.setRow (m id).blk (cur.toList.take q ++ (a.eval y).cells.toList ++ cur.toList.drop (q + (a.eval y).cells.toList.length)).toArray) := by
      simp only [execOp, ho, hxv, Instr.storeAt, Instr.sureAddr, Sem.run_bind, Sem.run_pure, Result.andThen, storeVar, run_sizeOf w hi, Program.cellsOf, hi, Option.map_some, Option.getD_some, hsz, hsize, ne_eq, not_true_eq_false, if_false]
      simp only [Nat.add_zero] at hst
      rw [hst]
    rw [hrun]
    have hm : ∀ i, S i → addS S n n i := fun i hi => .inl hi
    exact hnx undef _ m K ⟨fun _ _ => rfl, GK.refl _ _, hrel.monoS hm (fun _ _ => rfl), .v _ _, fun k hk => setRow_other _ _ _ _ (fun e => ((hr.own id b hl).real hrow).2.nk (e ▸ hk)), fun h => by cases h⟩
theorem evals_of {a : Act} (ht : TRel K w m S N T a) : ∀ (l : List Operand) (caps : List AV), l.mapM (evalA T) = some caps →
    (l.map a.eval).length = caps.length ∧ ∀ (j : Nat) (cv : AV) (y : Value), caps[j]? = some cv → (l.map a.eval)[j]? = some y → VR K w m S cv y
  | [], caps, h => by simp at h; subst h; simp
  | x :: l, caps, h => by
    rw [List.mapM_cons] at h
    cases hx : evalA T x with
    | none => simp [hx] at h
    | some av =>
      cases hl : l.mapM (evalA T) with
      | none => simp [hx, hl] at h
      | some cs =>
        simp only [hx, hl, Option.pure_def, Option.bind_eq_bind, Option.bind_some, Option.some.injEq] at h
        subst h
        obtain ⟨i1, i2⟩ := evals_of ht l cs hl
        refine ⟨by simp at i1 ⊢; exact i1, fun j cv y h1 h2 => ?_⟩
        cases j with
        | zero => simp at h1 h2; subst h1 h2; exact ht.eval hx
        | succ j => simp only [List.getElem?_cons_succ, List.map_cons] at h1 h2; exact i2 j cv y h1 h2
theorem s_makeFunc {f : FuncId} {cs : Array Operand} {caps : List AV} (ho : o.op = .makeFunc (.func f) #[] cs) (hc : cs.toList.mapM (evalA T) = some caps) : Step P o N T H n (.fn f caps) H n true :=
  Step.still fun Old wi K m S a w hr ht => by
    obtain ⟨k1, k2⟩ := evals_of ht _ _ hc
    refine ⟨.func (.func f) #[] (cs.toList.map a.eval).toArray, ?_, .fn _ f caps _ k1 k2⟩
    simp only [execOp, ho, Instr.makeFunc]
    obtain ⟨cs⟩ := cs
    simp
theorem s_len {x : Operand} {t : TypeId} {ti : TI} {av : AV} {l : Int} (ho : o.op = .call { callee := .builtin .len, args := #[x], argTypes := #[t] }) (hty : tiOf P t = some ti) (hx : evalA T x = some av)
    (hc : (ti.k = .str ∧ ∃ s, av = .v (.string s) ∧ l = s.size) ∨ ∃ e es eb ez, ti.k = .slice e es eb ez ∧ ((∃ sz rows, av = .dsl sz rows ∧ l = rows.length) ∨ (∃ id row len, av = .sl id row len ∧ l = len) ∨ ∃ ad len cap, av = .v (.slice ad len cap) ∧ l = len)) :
    Step P o N T H n (.v (.int .i64 l)) H n true := by
  obtain ⟨i, d, z, hi, hd, hzz, hsz, hagg, hby, hzl, htk⟩ := tiOf_spec hty
  refine Step.still fun Old wi K m S a w hr ht => ?_
  have hv := ht.eval hx
  refine ⟨_, ?_, .v _ _⟩
  generalize hxv : a.eval x = xv at hv
  rcases hc with ⟨hk, s, rfl, rfl⟩ | ⟨e, es, eb, ez, hk, hc⟩
  · rw [hk] at htk
    have hdd : d = .string := by
      cases d <;> simp only [tkOf] at htk
      case string => rfl
      case struct => split at htk <;> cases htk
      case slice => split at htk <;> (try split at htk) <;> cases htk
      case array => split at htk <;> cases htk
      all_goals cases htk
    subst hdd
    cases hv
    simp [execOp, ho, resolve, invoke, builtin, Builtin.len_, hxv, run_underlying hd, goInt]
  · rw [hk] at htk
    obtain ⟨ei, ezz, rfl, hei, _, hes, _, _⟩ := tk_slice htk
    rcases hc with ⟨sz, rows, rfl, rfl⟩ | ⟨id, row, len, rfl, rfl⟩ | ⟨ad, len, cap, rfl, rfl⟩ <;> cases hv <;> simp_all [execOp, resolve, invoke, builtin, Builtin.len_, run_underlying hd, goInt]
end
end Go.Proofs.Ytljpgbgokjiamaa.Aw

namespace Go.Proofs.Ytljpgbgokjiamaa.Aw
open Go Go.RowKit
def goFn (P : Program) (f : FuncId) : Bool := match P.funcs[f]? with
  | some fn => !(fn.name == "runtime.NumGoroutine") && fn.body.isSome
  | none => false
theorem run_goFn {P : Program} {f : FuncId} (h : goFn P f = true) (args : Array Value) (w : World) : (callFunc f args).run P w = .ok (.enter f args) w := by
  unfold goFn at h
  cases hf : P.funcs[f]? with
  | none => simp [hf] at h
  | some fn =>
    simp only [hf, Bool.and_eq_true, Bool.not_eq_true'] at h
    obtain ⟨h1, h2⟩ := h
    cases hb : fn.body with
    | none => simp [hb] at h2
    | some c =>
      have h3 : ¬ fn.name = "runtime.NumGoroutine" := by simpa using h1
      simp [callFunc, hf, h3, hb]
def VRs (K : Nat → Prop) (w : World) (args : List AV) (xs : List Value) : Prop :=
  xs.length = args.length ∧ ∀ (j : Nat) (av : AV) (x : Value), args[j]? = some av → xs[j]? = some x → VR K w (fun _ => ⟨0, 0, 0, false⟩) NoS av x
def NoK : Nat → Prop := fun _ => False
structure NewR (n n' : Nat) (v : AV) (U : Hp) (w : World) (r : Value) (w' : World) (m' : Nat → Loc) : Prop where
  below : Below w.heap.size w w'
  vr : VR NoK w' m' (fun i => n ≤ i ∧ i < n') v r
  new : ∀ i, n ≤ i → i < n' → (m' i).ph = false → w.heap.size ≤ (m' i).blk
  ids : ∀ i b, look U i = some b → n ≤ i ∧ i < n'
  own : ∀ i b, look U i = some b → OB NoK w' m' (fun i => n ≤ i ∧ i < n') i b
  inj : ∀ i j bi bj, look U i = some bi → look U j = some bj → i ≠ j → (m' i).ph = false → (m' j).ph = false → (m' i).blk ≠ (m' j).blk
  nm : ∀ i b, look U i = some b → (m' i).ph = true → (m' i).cap ≠ 1
def RO (P : Program) (f : FuncId) (args : List AV) (n : Nat) (v : AV) (U : Hp) (n' : Nat) : Prop :=
  goFn P f = true ∧ n ≤ n' ∧ (∀ i b, look U i = some b → n ≤ i ∧ i < n') ∧
  ∀ (K : Nat → Prop) (w : World) (xs : List Value), Gl w → (∀ k, K k → k < w.heap.size) → VRs K w args xs →
    Calls P f xs.toArray w fun e w' => ∃ r m', e = .returned r ∧ NewR n n' v U w r w' m'
theorem RO.plain {P : Program} {f : FuncId} {args : List AV} {x : Value} (n : Nat) (hg : goFn P f = true)
    (h : ∀ (K : Nat → Prop) (w : World) (xs : List Value), (∀ k, K k → k < w.heap.size) → VRs K w args xs → Calls P f xs.toArray w fun e w' => e = .returned x ∧ Below w.heap.size w w') :
    RO P f args n (.v x) [] n :=
  ⟨hg, Nat.le_refl _, fun i b h => by simp [look_nil] at h, fun K w xs _ hk hv => (h K w xs hk hv).mono fun e w' ⟨he, hb⟩ =>
    ⟨x, fun _ => ⟨0, 0, 0, false⟩, he, hb, .v _ _, fun i h1 h2 => absurd h2 (by omega), fun i b h => by simp [look_nil] at h, fun i b h => by simp [look_nil] at h, fun i j bi bj h => by simp [look_nil] at h, fun i b h => by simp [look_nil] at h⟩⟩
def fz : Nat → Hp → AV → Option AV
  | _, _, .v x => some (.v x)
  | _, _, .dsl s rows => some (.dsl s rows)
  | _, _, .dptr cells => some (.dptr cells)
  | _, _, .om _ _ => none
  | _, _, .emp => some .emp
  | _, _, .sx _ _ _ _ => none
  | 0, _, _ => none
  | k + 1, H, .ptr id row col => match look H id with
    | some b => match b.rows[row]? with
      | some r => if b.pl then some (.dptr (r.drop col)) else ((r.drop col).mapM (fz k H)).map .dptr
      | none => none
    | none => none
  | k + 1, H, .sl id row len => match look H id with
    | some b => if row + len ≤ b.rows.length then (if b.pl then some (.dsl b.size ((b.rows.drop row).take len)) else (((b.rows.drop row).take len).mapM fun (r : List AV) => r.mapM (fz k H)).map (.dsl b.size)) else none
    | none => none
  | k + 1, H, .agg cs => (cs.mapM (fz k H)).map .agg
  | k + 1, H, .tup cs => (cs.mapM (fz k H)).map .tup
  | k + 1, H, .fn f cs => (cs.mapM (fz k H)).map (.fn f)
theorem mapM_get {α β : Type} (f : α → Option β) : ∀ (l : List α) (l' : List β), l.mapM f = some l' → l'.length = l.length ∧ ∀ (j : Nat) (y : β), l'[j]? = some y → ∃ x, l[j]? = some x ∧ f x = some y
  | [], l', h => by simp at h; subst h; simp
  | x :: l, l', h => by
    rw [List.mapM_cons] at h
    cases hx : f x with
    | none => simp [hx] at h
    | some y =>
      cases hl : l.mapM f with
      | none => simp [hx, hl] at h
      | some ys =>
        simp only [hx, hl, Option.pure_def, Option.bind_eq_bind, Option.bind_some, Option.some.injEq] at h
        subst h
        obtain ⟨h1, h2⟩ := mapM_get f l ys hl
        refine ⟨by simp [h1], fun j z hj => ?_⟩
        cases j with
        | zero => simp at hj; subst hj; exact ⟨x, rfl, hx⟩
        | succ j => simp only [List.getElem?_cons_succ] at hj ⊢; exact h2 j z hj
section
variable {P : Program} {Old : Nat → Prop} {wi : WI Old} {K : Nat → Prop} {m : Nat → Loc} {S : Nat → Prop} {H : Hp} {w : World} {N n : Nat} {T : Tp} {o : Oper}
theorem fz_vr (hr : Rel Old wi K m S H w) : ∀ (k : Nat) (av av' : AV) (x : Value), fz k H av = some av' → VR K w m S av x → VR (fun k => k < w.heap.size) w (fun _ => ⟨0, 0, 0, false⟩) NoS av' x := by
  have up : ∀ {av : AV} {x : Value} {S' : Nat → Prop}, VR K w m NoS av x → VR (fun k => k < w.heap.size) w (fun _ => ⟨0, 0, 0, false⟩) S' av x :=
    fun h => h.mono hr.kb (fun _ _ => rfl) (fun _ h => h.elim) (fun _ h => h.elim)
  have base : ∀ {av : AV} {x : Value}, (∀ y, av = .v y → VR K w m S av x → VR (fun k => k < w.heap.size) w (fun _ => ⟨0, 0, 0, false⟩) NoS av x) := by
    intro av x y h hv; subst h; cases hv; exact .v _ _
  have d1 : ∀ {s : Nat} {rows : List (List AV)} {x : Value}, VR K w m S (.dsl s rows) x → VR (fun k => k < w.heap.size) w (fun _ => ⟨0, 0, 0, false⟩) NoS (.dsl s rows) x := by
    intro s rows x h
    cases h with
    | dsl0 => exact .dsl0 _ _ _ _
    | dsl _ _ _ n b o c xs hn hc hk hl hx hv => exact .dsl _ _ _ n b o c xs hn hc (hr.kb b hk) hl hx (fun r row j cv h1 h2 => up (hv r row j cv h1 h2))
  have d2 : ∀ {cells : List AV} {x : Value}, VR K w m S (.dptr cells) x → VR (fun k => k < w.heap.size) w (fun _ => ⟨0, 0, 0, false⟩) NoS (.dptr cells) x := by
    intro cells x h
    cases h with
    | dptr _ _ b o xs hk hx hv => exact .dptr _ _ b o xs (hr.kb b hk) hx (fun j cv h1 => up (hv j cv h1))
  intro k
  induction k with
  | zero =>
    intro av av' x h hv
    cases av <;> simp only [fz, Option.some.injEq] at h <;> try (cases h)
    · exact base _ rfl hv
    · exact d1 hv
    · exact d2 hv
    · cases hv; exact .emp _ _
  | succ k ih =>
    intro av av' x h hv
    cases av with
    | v y => simp only [fz, Option.some.injEq] at h; subst h; exact base _ rfl hv
    | dsl s rows => simp only [fz, Option.some.injEq] at h; subst h; exact d1 hv
    | dptr cells => simp only [fz, Option.some.injEq] at h; subst h; exact d2 hv
    | om id D => simp [fz] at h
    | emp => simp only [fz, Option.some.injEq] at h; subst h; cases hv; exact .emp _ _
    | sx id row len cap => simp [fz] at h
    | ptr id row col =>
      simp only [fz] at h
      cases hl : look H id with
      | none => simp [hl] at h
      | some b =>
        simp only [hl] at h
        cases hrow : b.rows[row]? with
        | none => simp [hrow] at h
        | some r =>
          simp only [hrow] at h
          obtain ⟨hph, hb⟩ := (hr.own id b hl).real hrow
          obtain ⟨cur, h1, h2, h3⟩ := hb.ex
          have hlt : (m id).blk < w.heap.size := hb.lt_size
          cases hv with
          | ptr _ _ _ _ p hS hp =>
            have cell : ∀ (j : Nat) (cv : AV), (r.drop col)[j]? = some cv → ∃ y, w.cell? ⟨(m id).blk, p + j, none⟩ = some y ∧ y.oneCell' = true ∧ VR K w m (fun i => S i ∧ b.pl = false) cv y := by
              intro j cv hj
              rw [List.getElem?_drop] at hj
              obtain ⟨y, hy, hone, hvy⟩ := (h3 row r hrow).2 (col + j) cv hj
              exact ⟨y, by rw [cell_of_row w _ _ _ _ _ h1, hp, hb.sz, Nat.add_assoc]; exact hy, hone, hvy⟩
            let xs : Nat → Value := fun j => (w.cell? ⟨(m id).blk, p + j, none⟩).getD undef
            split at h
            · rename_i hpl
              simp only [Option.some.injEq] at h
              subst h
              refine .dptr _ _ _ p xs hlt (fun j cv hj => ?_) (fun j cv hj => ?_)
              · obtain ⟨y, hy, hone, _⟩ := cell j cv hj
                simp only [xs, hy, Option.getD_some]
                exact ⟨trivial, hone⟩
              · obtain ⟨y, hy, hone, hvy⟩ := cell j cv hj
                simp only [xs, hy, Option.getD_some]
                exact up (hvy.mono (fun _ h => h) (fun _ _ => rfl) (fun _ h => absurd h.2 (by simp [hpl])) (fun _ _ => rfl))
            · cases hm : (r.drop col).mapM (fz k H) with
              | none => simp [hm] at h
              | some cs =>
                simp only [hm, Option.map_some, Option.some.injEq] at h
                subst h
                obtain ⟨hml, hmg⟩ := mapM_get _ _ _ hm
                refine .dptr _ _ _ p xs hlt (fun j cv hj => ?_) (fun j cv hj => ?_)
                · obtain ⟨cv0, hj0, _⟩ := hmg j cv hj
                  obtain ⟨y, hy, hone, _⟩ := cell j cv0 hj0
                  simp only [xs, hy, Option.getD_some]
                  exact ⟨trivial, hone⟩
                · obtain ⟨cv0, hj0, hf⟩ := hmg j cv hj
                  obtain ⟨y, hy, hone, hvy⟩ := cell j cv0 hj0
                  simp only [xs, hy, Option.getD_some]
                  exact ih _ _ _ hf (hvy.mono (fun _ h => h) (fun _ _ => rfl) (fun _ h => h.1) (fun _ _ => rfl))
    | sl id row len =>
      simp only [fz] at h
      cases hl : look H id with
      | none => simp [hl] at h
      | some b =>
        simp only [hl] at h
        split at h
        · rename_i hrl
          cases hv with
          | sl0 _ _ _ ad hS =>
            rw [List.take_zero] at h
            split at h
            · simp only [Option.some.injEq] at h; subst h; exact .dsl0 _ _ _ _
            · simp only [List.mapM_nil, Option.pure_def, Option.map_some, Option.some.injEq] at h; subst h; exact .dsl0 _ _ _ _
          | sl _ _ _ _ p c hS hph hp hc =>
            have hb := (hr.own id b hl).br hph
            obtain ⟨cur, h1, h2, h3⟩ := hb.ex
            have hlt : (m id).blk < w.heap.size := hb.lt_size
            have hcap := hb.cap
            let xs : Nat → Nat → Value := fun r j => (w.cell? ⟨(m id).blk, p + r * b.size + j, none⟩).getD undef
            have cell : ∀ (q : Nat) (rw_ : List AV), ((b.rows.drop row).take len)[q]? = some rw_ → rw_.length = b.size ∧ ∀ (j : Nat) (cv : AV), rw_[j]? = some cv → w.cell? ⟨(m id).blk, p + q * b.size + j, none⟩ = some (xs q j) ∧ (xs q j).oneCell' = true ∧ VR K w m (fun i => S i ∧ b.pl = false) cv (xs q j) := by
              intro q rw_ hq
              rw [List.getElem?_take] at hq
              split at hq
              · rw [List.getElem?_drop] at hq
                refine ⟨(h3 _ _ hq).1, fun j cv hj => ?_⟩
                obtain ⟨y, hy, hone, hvy⟩ := (h3 _ _ hq).2 j cv hj
                have hy' : w.cell? ⟨(m id).blk, p + q * b.size + j, none⟩ = some y := by
                  rw [cell_of_row w _ _ _ _ _ h1, hp, hb.sz, ← Nat.add_mul]; exact hy
                simp only [xs, hy', Option.getD_some]
                exact ⟨trivial, hone, hvy⟩
              · cases hq
            have hlen : ((b.rows.drop row).take len).length = len := by simp; omega
            split at h
            · rename_i hpl
              simp only [Option.some.injEq] at h
              subst h
              refine .dsl _ _ _ len _ p c xs hlen.symm (by rw [hlen]; omega) hlt (fun q r hq => (cell q r hq).1) (fun q r j cv hq hj => ⟨((cell q r hq).2 j cv hj).1, ((cell q r hq).2 j cv hj).2.1⟩) (fun q r j cv hq hj => ?_)
              exact up (((cell q r hq).2 j cv hj).2.2.mono (fun _ h => h) (fun _ _ => rfl) (fun _ h => absurd h.2 (by simp [hpl])) (fun _ _ => rfl))
            · cases hm : ((b.rows.drop row).take len).mapM fun (r : List AV) => r.mapM (fz k H) with
              | none => rw [hm] at h; simp at h
              | some cs =>
                rw [hm] at h
                simp only [Option.map_some, Option.some.injEq] at h
                subst h
                obtain ⟨hml, hmg⟩ := mapM_get _ _ _ hm
                refine .dsl _ _ _ len _ p c xs (by rw [hml, hlen]) (by rw [hml, hlen]; omega) hlt (fun q r hq => ?_) (fun q r j cv hq hj => ?_) (fun q r j cv hq hj => ?_)
                · obtain ⟨r0, hq0, hf⟩ := hmg q r hq
                  rw [(mapM_get _ _ _ hf).1]
                  exact (cell q r0 hq0).1
                · obtain ⟨r0, hq0, hf⟩ := hmg q r hq
                  obtain ⟨cv0, hj0, hf0⟩ := (mapM_get _ _ _ hf).2 j cv hj
                  exact ⟨((cell q r0 hq0).2 j cv0 hj0).1, ((cell q r0 hq0).2 j cv0 hj0).2.1⟩
                · obtain ⟨r0, hq0, hf⟩ := hmg q r hq
                  obtain ⟨cv0, hj0, hf0⟩ := (mapM_get _ _ _ hf).2 j cv hj
                  exact ih _ _ _ hf0 (((cell q r0 hq0).2 j cv0 hj0).2.2.mono (fun _ h => h) (fun _ _ => rfl) (fun _ h => h.1) (fun _ _ => rfl))
        · cases h
    | agg cs =>
      simp only [fz] at h
      cases hm : cs.mapM (fz k H) with
      | none => simp [hm] at h
      | some cs' =>
        simp only [hm, Option.map_some, Option.some.injEq] at h
        subst h
        obtain ⟨hml, hmg⟩ := mapM_get _ _ _ hm
        cases hv with
        | agg _ _ xs hl hvv =>
          refine .agg _ _ xs (by rw [hl, hml]) fun j cv y h1 h2 => ?_
          obtain ⟨cv0, hj0, hf⟩ := hmg j cv h1
          exact ih _ _ _ hf (hvv j cv0 y hj0 h2)
    | tup cs =>
      simp only [fz] at h
      cases hm : cs.mapM (fz k H) with
      | none => simp [hm] at h
      | some cs' =>
        simp only [hm, Option.map_some, Option.some.injEq] at h
        subst h
        obtain ⟨hml, hmg⟩ := mapM_get _ _ _ hm
        cases hv with
        | tup _ _ xs hl hvv =>
          refine .tup _ _ xs (by rw [hl, hml]) fun j cv y h1 h2 => ?_
          obtain ⟨cv0, hj0, hf⟩ := hmg j cv h1
          exact ih _ _ _ hf (hvv j cv0 y hj0 h2)
    | fn f cs =>
      simp only [fz] at h
      cases hm : cs.mapM (fz k H) with
      | none => simp [hm] at h
      | some cs' =>
        simp only [hm, Option.map_some, Option.some.injEq] at h
        subst h
        obtain ⟨hml, hmg⟩ := mapM_get _ _ _ hm
        cases hv with
        | fn _ _ _ xs hl hvv =>
          refine .fn _ f _ xs (by rw [hl, hml]) fun j cv y h1 h2 => ?_
          obtain ⟨cv0, hj0, hf⟩ := hmg j cv h1
          exact ih _ _ _ hf (hvv j cv0 y hj0 h2)
theorem Rel.newR (hr : Rel Old wi K m S H w) {n n' : Nat} {v : AV} {U : Hp} {r : Value} {w' : World} {m1 : Nat → Loc} (hns : ∀ i, n ≤ i → i < n' → ¬ S i) (h : NewR n n' v U w r w' m1) :
    Aft Old wi K m S w n v (U ++ H) n' true r w' (fun i => if n ≤ i ∧ i < n' then m1 i else m i) K := by
  have hk : ∀ k, k < w.heap.size → w'.heap[k]? = w.heap[k]? := h.below.block
  have hS : ∀ i, S i → (if n ≤ i ∧ i < n' then m1 i else m i) = m i := fun i hi => by
    rw [if_neg (fun hc => hns i hc.1 hc.2 hi)]
  have hN : ∀ i, n ≤ i ∧ i < n' → (if n ≤ i ∧ i < n' then m1 i else m i) = m1 i := fun i hi => if_pos hi
  have hs := h.below.size
  have part : ∀ i b, look (U ++ H) i = some b → look U i = some b ∨ (look U i = none ∧ look H i = some b) := fun i b hl => by
    rw [look_append] at hl
    cases hu : look U i with
    | some b' => rw [hu] at hl; simp at hl; exact .inl (by rw [hl])
    | none => rw [hu] at hl; simp at hl; exact .inr ⟨rfl, hl⟩
  refine ⟨fun i hi => if_neg hi, GK.refl _ _, ?_, ?_, fun k hkk => hk k (hr.kb k hkk), fun _ => ⟨h.below, fun i h1 h2 => by rw [hN i ⟨h1, h2⟩]; exact h.new i h1 h2, fun _ h _ => h⟩⟩
  · refine { os := h.below.os.trans hr.os, tape := h.below.tape.trans hr.tape, output := h.below.output.trans hr.output, size := Nat.le_trans hr.size hs, old := fun k ho => (hk k (hr.olt k ho)).trans (hr.old k ho), olt := fun k ho => Nat.lt_of_lt_of_le (hr.olt k ho) hs, oown := ?_, om := fun i b hl => (part i b hl).elim (fun hu hp hq => absurd hq (h.nm i b hu (by rw [hN i (h.ids i b hu)] at hp; exact hp) ∘ fun e => by rw [hN i (h.ids i b hu)] at e; exact e)) (fun hh => by rw [hS i (hr.inS i b hh.2)]; exact hr.om i b hh.2), kb := fun k hkk => Nat.lt_of_lt_of_le (hr.kb k hkk) hs, pin := fun i l hp => (hS i (hr.pinS i l hp)).trans (hr.pin i l hp), pinS := fun i l hp => .inl (hr.pinS i l hp), inS := ?_, own := ?_, inj := ?_ }
    · intro i b hl
      rcases part i b hl with hu | ⟨_, hh⟩
      · have hi := h.ids i b hu; rw [hN i hi]; exact fun hp ho => by have := hr.olt _ ho; have := h.new i hi.1 hi.2 hp; omega
      · rw [hS i (hr.inS i b hh)]; exact hr.oown i b hh
    · intro i b hl
      rcases part i b hl with hu | ⟨_, hh⟩
      · exact .inr (h.ids i b hu)
      · exact .inl (hr.inS i b hh)
    · intro i b hl
      rcases part i b hl with hu | ⟨_, hh⟩
      · have hi := h.ids i b hu
        rcases h.own i b hu with ⟨e1, e2⟩ | ⟨hph, hb⟩
        · exact .inl ⟨(congrArg Loc.ph (hN i hi)).trans e1, e2⟩
        obtain ⟨cur, c1, c2, c3⟩ := hb.ex
        refine .inr ⟨(congrArg Loc.ph (hN i hi)).trans hph, ?_⟩
        refine ⟨by rw [hN i hi]; exact fun hc => by have := hr.kb _ hc; have := h.new i hi.1 hi.2 hph; omega, by rw [hN i hi]; exact hb.sz, by rw [hN i hi]; exact hb.cap, by rw [hN i hi]; exact hb.capm, hb.plv, cur, by rw [hN i hi]; exact c1, by rw [hN i hi]; exact c2, fun q row hq => ⟨(c3 q row hq).1, fun j cv hj => ?_⟩⟩
        obtain ⟨x, hx, hone, hv⟩ := (c3 q row hq).2 j cv hj
        exact ⟨x, hx, hone, hv.mono (fun _ h => h.elim) (fun _ _ => rfl) (fun i hi => ⟨.inr hi.1, hi.2⟩) (fun i hi => hN i hi.1)⟩
      · exact (hr.own i b hh).mono (fun k hkk => hk k (hr.kb k hkk)) (fun _ hb => hk _ hb.lt_size) (fun i hi => .inl hi) hS (hr.inS i b hh)
    · intro i j bi bj hi hj hne
      rcases part i bi hi with hui | ⟨_, hhi⟩ <;> rcases part j bj hj with huj | ⟨_, hhj⟩
      · rw [hN i (h.ids i bi hui), hN j (h.ids j bj huj)]
        exact h.inj i j bi bj hui huj hne
      · rw [hN i (h.ids i bi hui), hS j (hr.inS j bj hhj)]
        intro hp hp'
        have := h.new i (h.ids i bi hui).1 (h.ids i bi hui).2 hp
        have := ((hr.own j bj hhj).br hp').lt_size
        omega
      · rw [hN j (h.ids j bj huj), hS i (hr.inS i bi hhi)]
        intro hp' hp
        have := h.new j (h.ids j bj huj).1 (h.ids j bj huj).2 hp
        have := ((hr.own i bi hhi).br hp').lt_size
        omega
      · rw [hS i (hr.inS i bi hhi), hS j (hr.inS j bj hhj)]
        exact hr.inj i j bi bj hhi hhj hne
  · exact h.vr.mono (fun _ h => h.elim) (fun _ _ => rfl) (fun i hi => .inr hi) hN
def Fz (H : Hp) (av av' : AV) : Prop := ∀ (Old : Nat → Prop) (wi : WI Old) (K : Nat → Prop) (m : Nat → Loc) (S : Nat → Prop) (w : World) (x : Value), Rel Old wi K m S H w → VR K w m S av x → VR (fun k => k < w.heap.size) w (fun _ => ⟨0, 0, 0, false⟩) NoS av' x
inductive FzL (H : Hp) : List AV → List AV → Prop
  | nil : FzL H [] []
  | cons {a a' : AV} {l l' : List AV} (h : Fz H a a') (t : FzL H l l') : FzL H (a :: l) (a' :: l')
theorem Fz.of {H : Hp} {a a' : AV} (h : fz 4 H a = some a') : Fz H a a' := fun _ _ _ _ _ _ _ hr hv => fz_vr hr 4 _ _ _ h hv
theorem FzL.of {H : Hp} : ∀ {l l' : List AV}, l.mapM (fz 4 H) = some l' → FzL H l l'
  | [], l', h => by simp at h; subst h; exact .nil
  | x :: l, l', h => by
    rw [List.mapM_cons] at h
    cases hx : fz 4 H x with
    | none => simp [hx] at h
    | some y =>
      cases hl : l.mapM (fz 4 H) with
      | none => simp [hx, hl] at h
      | some ys =>
        simp only [hx, hl, Option.pure_def, Option.bind_eq_bind, Option.bind_some, Option.some.injEq] at h
        subst h
        exact .cons (.of hx) (.of hl)
theorem FzL.get {H : Hp} {l l' : List AV} (h : FzL H l l') : l'.length = l.length ∧ ∀ (j : Nat) (y : AV), l'[j]? = some y → ∃ x, l[j]? = some x ∧ Fz H x y := by
  induction h with
  | nil => simp
  | cons h t ih =>
    refine ⟨by simp [ih.1], fun j z hj => ?_⟩
    cases j with
    | zero => simp at hj; subst hj; exact ⟨_, rfl, h⟩
    | succ j => simp only [List.getElem?_cons_succ] at hj ⊢; exact ih.2 j z hj
theorem Fz.nil {H : Hp} {a : Option Addr} {c s : Nat} : Fz H (.v (.slice a 0 c)) (.dsl s []) := fun _ _ _ _ _ _ x _ hv => by cases hv; exact .dsl0 _ _ _ _
theorem Fz.emp {H : Hp} {s : Nat} : Fz H .emp (.dsl s []) := fun _ _ _ _ _ _ x _ hv => by cases hv; exact .dsl0 _ _ _ _
theorem Fz.sl {H : Hp} {id row len : Nat} {b : Blk} {rows : List (List AV)} (hl : look H id = some b) (hp : b.pl = true) (hn : row + len ≤ b.rows.length) (he : (b.rows.drop row).take len = rows) : Fz H (.sl id row len) (.dsl b.size rows) := by
  intro Old wi K m S w x hr hv
  refine fz_vr hr 4 (.sl id row len) _ _ ?_ hv
  simp only [fz, hl, hp, if_pos hn, if_true, he]
theorem s_call {f : Operand} {g : FuncId} {xs : Array Operand} {ts : Array TypeId} {caps args args' : List AV} {v : AV} {U : Hp} {n' : Nat} (ho : o.op = .call { callee := .value f, args := xs, argTypes := ts })
    (hf : evalA T f = some (.fn g caps)) (ha : xs.toList.mapM (evalA T) = some args) (hz : FzL H (args ++ caps) args') (hro : RO P g args' n v U n') : Step P o N T H n v (U ++ H) n' true := by
  obtain ⟨hg, hn, _, hc⟩ := hro
  refine ⟨hn, fun Old wi K m S a w hS hr ht next Q hnx => ?_⟩
  have hfv := ht.eval hf
  obtain ⟨el, ev⟩ := evals_of ht _ _ ha
  generalize hfx : a.eval f = fx at hfv
  cases hfv with
  | fn _ _ _ ys hl hv =>
    have hrun : (execOp a.eval o).run P w = .ok (.enter g (xs.toList.map a.eval ++ ys).toArray) w := by
      simp only [execOp, ho, resolve, hfx, Deferred.ofValue, invoke, Sem.run_bind, Sem.run_pure, Result.andThen]
      rw [run_goFn hg]
      obtain ⟨xs⟩ := xs
      simp
    unfold Oper.wp
    rw [hrun, Oper.upon_enter]
    obtain ⟨zl, zg⟩ := hz.get
    refine (hc (fun k => k < w.heap.size) w (xs.toList.map a.eval ++ ys) hr.gl (fun _ h => h) ⟨by rw [zl, List.length_append, List.length_append, el, hl], fun j av x h1 h2 => ?_⟩).mono ?_
    · obtain ⟨av0, hj0, hfz⟩ := zg j av h1
      refine hfz _ _ _ _ _ _ x hr ?_
      by_cases hj : j < args.length
      · rw [List.getElem?_append_left hj] at hj0
        rw [List.getElem?_append_left (by rw [el]; exact hj)] at h2
        exact ev j av0 x hj0 h2
      · rw [List.getElem?_append_right (by omega)] at hj0
        rw [List.getElem?_append_right (by rw [el]; omega), el] at h2
        exact hv _ av0 x hj0 h2
    · rintro e w' ⟨r, m1, rfl, hnew⟩
      exact hnx r w' _ K (hr.newR hS hnew)
end
end Go.Proofs.Ytljpgbgokjiamaa.Aw

namespace Go.Proofs.Ytljpgbgokjiamaa.Aw
open Go Go.RowKit
def put (T : Tp) (d : Option Nat) (v : AV) : Tp := match d with
  | some d => (d, v) :: T
  | none => T
def dOk (N : Nat) (d : Option Nat) : Bool := match d with
  | some d => Nat.blt d N
  | none => true
theorem addS_lt {n n' : Nat} (h : n ≤ n') : addS (fun i => i < n) n n' = fun i => i < n' := by
  funext i
  exact propext ⟨fun h' => by rcases h' with h' | h' <;> omega, fun h' => by by_cases hi : i < n; exact .inl hi; exact .inr ⟨by omega, h'⟩⟩
section
variable {P : Program} {Old : Nat → Prop} {wi : WI Old} {K : Nat → Prop} {m m' : Nat → Loc} {S S' : Nat → Prop} {H : Hp} {w w' : World} {N n : Nat} {T : Tp} {o : Oper} {a : Act}
theorem TRel.mono {K' : Nat → Prop} (h : TRel K w m S N T a) (hK : ∀ k, K k → K' k) (hw : ∀ k, K k → w'.heap[k]? = w.heap[k]?) (hS : ∀ i, S i → S' i) (hm : ∀ i, S i → m' i = m i) : TRel K' w' m' S' N T a :=
  ⟨h.dn, h.sz, fun t av hl => (h.tm t av hl).mono hK hw hS hm⟩
theorem TRel.put {v : AV} {r : Value} {d : Option Nat} (h : TRel K w m S N T a) (hv : VR K w m S v r) (hd : dOk N d = true) : TRel K w m S N (Aw.put T d v) (a.put d r) := by
  cases d with
  | none => exact h
  | some d =>
    have hlt : d < N := by simpa [dOk, Nat.blt_eq] using hd
    refine ⟨h.dn, by simp [Act.put, h.sz], fun t av hl => ?_⟩
    simp only [Aw.put, look_cons] at hl
    split at hl
    · rename_i hdt
      subst hdt
      simp only [Option.some.injEq] at hl
      subst hl
      have : d < a.tmps.size := by rw [h.sz]; exact hlt
      simpa [Act.put, Array.getD, this] using hv
    · rename_i hdt
      have := h.tm t av hl
      simpa [Act.put, Array.getElem?_setIfInBounds_ne hdt] using this
theorem Aft.trel {v : AV} {H' : Hp} {n' : Nat} {ro : Bool} {r : Value} {d : Option Nat} {K' : Nat → Prop} (ha : Aft Old wi K m (fun i => i < n) w n v H' n' ro r w' m' K') (hn : n ≤ n') (ht : TRel K w m (fun i => i < n) N T a) (hd : dOk N d = true) :
    Rel Old wi K' m' (fun i => i < n') H' w' ∧ TRel K' w' m' (fun i => i < n') N (put T d v) (a.put d r) := by
  have e := addS_lt hn
  refine ⟨e ▸ ha.rel, ?_⟩
  refine (ht.mono ha.gk.1 ha.kk (fun i hi => by omega) (fun i hi => ha.ag i (by omega))).put (e ▸ ha.vr) hd
end
def SQ (P : Program) (N : Nat) (all : Array Oper) (l : List Oper) (G : Tp → Hp → Nat → Prop) (T : Tp) (H : Hp) (n : Nat) : Prop :=
  ∀ (Old : Nat → Prop) (wi : WI Old) (K : Nat → Prop) (m : Nat → Loc) (a : Act) (w : World) (Q : Exit → Act → World → Prop), Rel Old wi K m (fun i => i < n) H w → TRel K w m (fun i => i < n) N T a →
    (∀ T' H' n' m' K' a' w', GK Old K K' → G T' H' n' → Rel Old wi K' m' (fun i => i < n') H' w' → TRel K' w' m' (fun i => i < n') N T' a' → Q Exit.normal a' w') → ∀ rr : Option Nat, wpListIn (FW rr) 0 P all Q l a w
section
variable {P : Program} {N n n' : Nat} {all : Array Oper} {l : List Oper} {G : Tp → Hp → Nat → Prop} {T : Tp} {H H' : Hp} {o : Oper} {v : AV} {ro : Bool}
theorem sq_nil (h : G T H n) : SQ P N all [] G T H n := fun _ _ K m a w _ hr ht hq _ => hq T H n m K a w (GK.refl _ _) h hr ht
theorem sq_step (hg : o.guard = none) (hd : dOk N o.dst = true) (hs : Step P o N T H n v H' n' ro) (h : SQ P N all l G (put T o.dst v) H' n') : SQ P N all (o :: l) G T H n := by
  intro Old wi K m a w Q hr ht hq rr
  unfold wpListIn
  rw [if_pos (by simp [Region.wanted, hg])]
  refine hs.inn (fun i h1 h2 h3 => by omega) hr ht rr _ Q fun r w' m' K' ha => ?_
  obtain ⟨h1, h2⟩ := ha.trel hs.1 ht hd
  exact h Old wi K' m' _ w' Q h1 h2 (fun T' H' n' m' K'' a' w' hg => hq T' H' n' m' K'' a' w' (ha.gk.trans hg)) rr
theorem yielded_of {K : Nat → Prop} {m : Nat → Loc} {S : Nat → Prop} {w : World} {a : Act} {ops : Array Oper} {j t : Nat} {b : Bool} (ht : TRel K w m S N T a) (hj : ((ops[j]?).bind (·.dst)) = some t) (hl : look T t = some (.v (.bool b))) (htn : Nat.blt t N = true) : yielded ops a.tmps j = some b := by
  have hlt : t < a.tmps.size := by rw [ht.sz]; simpa [Nat.blt_eq] using htn
  have h1 := ht.tm t _ hl
  have h2 : a.tmps.getD t undef = a.tmps[t] := by simp [Array.getD, hlt]
  rw [h2] at h1
  generalize hx : a.tmps[t] = x at h1
  cases h1
  simp [yielded, hj, hlt, hx]
def noG (y : Value) (b : Bool) : Bool := match y with
  | .bool b' => !(b' == b)
  | _ => true
theorem yielded_no {K : Nat → Prop} {m : Nat → Loc} {S : Nat → Prop} {w : World} {a : Act} {ops : Array Oper} {j t : Nat} {y : Value} {b : Bool} (ht : TRel K w m S N T a) (hj : ((ops[j]?).bind (·.dst)) = some t) (hl : look T t = some (.v y)) (hn : noG y b = true) : (yielded ops a.tmps j == some b) = false := by
  have h1 := ht.tm t _ hl
  unfold yielded
  rw [hj]
  simp only [Option.bind_some]
  cases hx : a.tmps[t]? with
  | none => rfl
  | some x =>
    have h2 : a.tmps.getD t undef = x := by
      rw [Array.getD_eq_getD_getElem?, hx]; rfl
    rw [h2] at h1
    cases h1
    cases y <;> simp_all [noG]
theorem sq_skip {j t : Nat} {b b' : Bool} (hg : o.guard = some (j, b)) (hj : ((all[j]?).bind (·.dst)) = some t) (htn : Nat.blt t N = true) (hl : look T t = some (.v (.bool b'))) (hne : (b' == b) = false) (hd : dOk N o.dst = true)
    (h : SQ P N all l G (put T o.dst (.v undef)) H n) : SQ P N all (o :: l) G T H n := by
  intro Old wi K m a w Q hr ht hq rr
  unfold wpListIn
  have hb : b' ≠ b := by simpa using hne
  rw [if_neg (by simp [Region.wanted, hg, yielded_of ht hj hl htn, hb])]
  exact ⟨fun _ _ => trivial, h Old wi K m _ w Q hr (ht.put (.v _ _) hd) hq rr⟩
theorem sq_skipU {j t : Nat} {b : Bool} {y : Value} (hg : o.guard = some (j, b)) (hj : ((all[j]?).bind (·.dst)) = some t) (hl : look T t = some (.v y)) (hne : noG y b = true) (hd : dOk N o.dst = true)
    (h : SQ P N all l G (put T o.dst (.v undef)) H n) : SQ P N all (o :: l) G T H n := by
  intro Old wi K m a w Q hr ht hq rr
  unfold wpListIn
  rw [if_neg (by simp only [Region.wanted, hg, yielded_no ht hj hl hne]; decide)]
  exact ⟨fun _ _ => trivial, h Old wi K m _ w Q hr (ht.put (.v _ _) hd) hq rr⟩
end
def AW (P : Program) (N g : Nat) (c : Code) (Q : Exit → Tp → Hp → Nat → Prop) (T : Tp) (H : Hp) (n : Nat) : Prop :=
  ∀ (Old : Nat → Prop) (wi : WI Old) (K : Nat → Prop) (m : Nat → Loc) (a : Act) (w : World), (∀ i l, wi.pin i = some l → i < g) → Rel Old wi K m (fun i => i < n) H w → TRel K w m (fun i => i < n) N T a →
    ∀ rr : Option Nat, c.wpIn (FW rr) 0 P (fun e a' w' => ∃ T' H' n' m' K', GK Old K K' ∧ Q e T' H' n' ∧ Rel Old wi K' m' (fun i => i < n') H' w' ∧ TRel K' w' m' (fun i => i < n') N T' a') a w
def Thn (G : Tp → Hp → Nat → Prop) (Q : Exit → Tp → Hp → Nat → Prop) : Exit → Tp → Hp → Nat → Prop
  | .normal, T, H, n => G T H n
  | e, T, H, n => Q e T H n
def InB (id : Nat) (Q : Exit → Tp → Hp → Nat → Prop) : Exit → Tp → Hp → Nat → Prop
  | .exit id', T, H, n => if id' = id then Q .normal T H n else Q (.exit id') T H n
  | e, T, H, n => Q e T H n
section
variable {P : Program} {N g n : Nat} {Q : Exit → Tp → Hp → Nat → Prop} {T : Tp} {H : Hp}
theorem AW.mono {c : Code} {Q' : Exit → Tp → Hp → Nat → Prop} (h : AW P N g c Q T H n) (hq : ∀ e T H n, Q e T H n → Q' e T H n) : AW P N g c Q' T H n :=
  fun Old wi K m a w hp hr ht rr => Go.wpIn_mono (h Old wi K m a w hp hr ht rr) fun _ _ _ ⟨T', H', n', m', K', gk, h1, h2⟩ => ⟨T', H', n', m', K', gk, hq _ _ _ _ h1, h2⟩
theorem aw_seq {x y : Code} (h : AW P N g x (Thn (AW P N g y Q) Q) T H n) : AW P N g (.seq x y) Q T H n := fun Old wi K m a w hp hr ht rr =>
  Go.wpIn_seq (Go.wpIn_mono (h Old wi K m a w hp hr ht rr) fun e a' w' ⟨T', H', n', m', K', gk, h1, h2, h3⟩ => by
    cases e <;> first
      | exact Go.wpIn_mono (h1 Old wi K' m' a' w' hp h2 h3 rr) fun e a' w' ⟨T', H', n', m', K'', g', h1, h2, h3⟩ => ⟨T', H', n', m', K'', gk.trans g', h1, h2, h3⟩
      | exact ⟨T', H', n', m', K', gk, h1, h2, h3⟩)
theorem aw_skip (h : Q .normal T H n) : AW P N g .skip Q T H n := fun _ _ K m _ _ _ hr ht _ => Go.wpIn_skip ⟨T, H, n, m, K, GK.refl _ _, h, hr, ht⟩
theorem aw_exit {id : Nat} (h : Q (.exit id) T H n) : AW P N g (.exit id) Q T H n := fun _ _ K m _ _ _ hr ht _ => Go.wpIn_exit ⟨T, H, n, m, K, GK.refl _ _, h, hr, ht⟩
theorem aw_ret (h : Q .ret T H n) : AW P N g .ret Q T H n := fun _ _ K m _ _ _ hr ht _ => Go.wpIn_ret ⟨T, H, n, m, K, GK.refl _ _, h, hr, ht⟩
theorem aw_cond {c : Operand} {x y : Code} {t : Bool} (hc : evalA T c = some (.v (.bool t))) (h1 : t = true → AW P N g x Q T H n) (h2 : t = false → AW P N g y Q T H n) : AW P N g (.cond c x y) Q T H n := by
  intro Old wi K m a w hp hr ht rr
  have hv := ht.eval hc
  generalize hx : a.eval c = cv at hv
  cases hv
  exact Go.wpIn_cond_split hx (fun e => h1 e Old wi K m a w hp hr ht rr) (fun e => h2 e Old wi K m a w hp hr ht rr)
theorem aw_block {id : Nat} {c : Code} (h : AW P N g c (InB id Q) T H n) : AW P N g (.block id c) Q T H n := fun Old wi K m a w hp hr ht rr =>
  Go.wpIn_block (Go.wpIn_mono (h Old wi K m a w hp hr ht rr) fun e a' w' ⟨T', H', n', m', K', gk, h1, h2, h3⟩ => by
    cases e with
    | exit id' =>
      by_cases hid : id' = id
      · simp only [InB, hid, if_true] at h1
        simp only [Exit.inBlock, hid, if_true]
        exact ⟨T', H', n', m', K', gk, h1, h2, h3⟩
      · simp only [InB, hid, if_false] at h1
        simp only [Exit.inBlock, hid, if_false]
        exact ⟨T', H', n', m', K', gk, h1, h2, h3⟩
    | normal => exact ⟨T', H', n', m', K', gk, h1, h2, h3⟩
    | goto l => exact ⟨T', H', n', m', K', gk, h1, h2, h3⟩
    | ret => exact ⟨T', H', n', m', K', gk, h1, h2, h3⟩
    | panic ch => exact ⟨T', H', n', m', K', gk, h1, h2, h3⟩
    | outgrown => exact ⟨T', H', n', m', K', gk, h1, h2, h3⟩)
theorem aw_region {id : Nat} {l : List Oper} (h : SQ P N l.toArray l (fun T H n => Q .normal T H n) T H n) : AW P N g (.region id l.toArray false) Q T H n :=
  fun Old wi K m a w _ hr ht rr => wpIn_region_lit (h Old wi K m a w _ hr ht (fun T' H' n' m' K' _ _ g h1 h2 h3 => ⟨T', H', n', m', K', g, h1, h2, h3⟩) rr)
theorem wp_loop_ix {F : Fence} {nn : Nat} {c : Code} {Q : Exit → Act → World → Prop} (I : Nat → Act → World → Prop) (k : Nat) {a : Act} {w : World} (h₀ : I k a w)
    (round : ∀ k a w, I k a w → c.wpIn F nn P (Exit.then (fun a' w' => ∃ k', k' < k ∧ I k' a' w') Q) a w) : (Code.loop c).wpIn F nn P Q a w := by
  intro b kk cs hro hb hrm
  have key : ∀ n a w, I n a w → ∃ e a' w', Q e a' w' ∧ ArrivesIn (Machine.fenced P F) P (lone (b.atR a (.code c :: .inLoop c :: kk)) cs w) b kk cs e a' w' := by
    intro n
    induction n using Nat.strongRecOn with
    | _ n ih =>
      intro a w hI
      obtain ⟨e, a₁, w₁, hq, harr⟩ := round n a w hI b (.inLoop c :: kk) cs hro hb hrm
      cases e with
      | normal =>
        obtain ⟨k', hlt, hI₁⟩ := hq
        obtain ⟨e₂, a₂, w₂, hq₂, harr₂⟩ := ih k' hlt a₁ w₁ hI₁
        exact ⟨e₂, a₂, w₂, hq₂, .of_steps (StepsIn.trans harr (.one (fenced_calm hb hrm rfl) stepR_inLoop)) harr₂⟩
      | exit id => exact ⟨_, a₁, w₁, hq, .pass (x := .inLoop c) rfl (fun _ _ => .inl (by simp)) harr⟩
      | goto l => exact ⟨_, a₁, w₁, hq, .pass (x := .inLoop c) rfl (fun _ _ => .inl (by simp)) harr⟩
      | ret => exact ⟨_, a₁, w₁, hq, .pass (x := .inLoop c) rfl (fun _ _ => .inl (by simp)) harr⟩
      | panic ch => exact ⟨_, a₁, w₁, hq, .pass (x := .inLoop c) rfl (fun _ _ => .inl (by simp)) harr⟩
      | outgrown => exact ⟨_, a₁, w₁, hq, .pass (x := .inLoop c) rfl (fun _ _ => .inl (by simp)) harr⟩
  obtain ⟨e, a', w', hq, harr⟩ := key _ a w h₀
  exact ⟨e, a', w', hq, .of_steps (.one (fenced_calm hb hrm rfl) stepR_loop) harr⟩
end
end Go.Proofs.Ytljpgbgokjiamaa.Aw

namespace Go.Proofs.Ytljpgbgokjiamaa.Aw
open Go Go.RowKit
set_option linter.unusedSimpArgs false
section
variable {P : Program} {Old : Nat → Prop} {wi : WI Old} {K : Nat → Prop} {m : Nat → Loc} {S : Nat → Prop} {H : Hp} {w : World} {N n : Nat} {T : Tp} {o : Oper}
theorem made_get {z : Array Value} {es C r j : Nat} (hz : z.size = es) (hr : r < C) (hj : j < es) : (madeCells z (C * es))[r * es + j]? = z[j]? := by
  have hlt : r * es + j < C * es := by
    have : (r + 1) * es ≤ C * es := Nat.mul_le_mul_right _ hr
    rw [Nat.succ_mul] at this; omega
  unfold madeCells
  rw [Array.getElem?_map, Array.getElem?_range, if_pos hlt]
  simp only [Option.map_some]
  have : (r * es + j) % z.size = j := by rw [hz, Nat.mul_comm, Nat.mul_add_mod, Nat.mod_eq_of_lt hj]
  rw [this, getElem!_pos z j (by omega), Array.getElem?_eq_getElem (by omega)]
theorem s_makeSlice {t : TypeId} {ti : TI} {x y : Operand} {e : TypeId} {es eb : Nat} {ez : List Value} {k k' : IntKind} {L C : Int} (ho : o.op = .makeSlice t x y) (hty : tiOf P t = some ti)
    (hk : ti.k = .slice e es eb ez) (hx : evalA T x = some (.v (.int k L))) (hy : evalA T y = some (.v (.int k' C))) (h0 : 0 ≤ L) (h1 : L ≤ C) (hb : (eb : Int) * C ≤ 281474976710656) (h63 : C ≤ 9223372036854775807)
    (hz : ez.length = es) (hone : ez.all (·.oneCell') = true) :
    Step P o N T H n (.sl n 0 L.toNat) ((n, ⟨e, es, true, List.replicate L.toNat (ez.map .v)⟩) :: H) (n + 1) true := by
  obtain ⟨i, d, z, hi, hd, hzz, hsz, hagg, hby, hzl, htk⟩ := tiOf_spec hty
  rw [hk] at htk
  obtain ⟨ei, ezz, rfl, hei, hezz, hes, heb, hezl⟩ := tk_slice htk
  have hzs : ezz.cells.size = es := by rw [← hz, ← hezl]; simp
  refine Step.new ⟨e, es, true, List.replicate L.toNat (ez.map .v)⟩ (fun _ r row hrow j cv hj => ?_) fun Old wi K m S a w hr ht => ?_
  · obtain ⟨_, hrow⟩ := List.getElem?_eq_some_iff.1 hrow
    rw [List.getElem_replicate] at hrow
    subst hrow
    rw [List.getElem?_map] at hj
    cases hzj : ez[j]? with
    | none => simp [hzj] at hj
    | some y => simp only [hzj, Option.map_some, Option.some.injEq] at hj; subst hj; rfl
  · have hvx := ht.eval hx
    have hvy := ht.eval hy
    generalize hxv : a.eval x = xv at hvx
    generalize hyv : a.eval y = yv at hvy
    cases hvx
    cases hvy
    refine ⟨.slice (some ⟨w.heap.size, 0, none⟩) L.toNat C.toNat, w.drawn, C.toNat, madeCells ezz.cells (C.toNat * ei.size), ?_, by simp only [List.length_replicate]; omega, by simp only [maxLen]; omega, by simp [size_madeCells, hes], ?_, ?_⟩
    · simp only [execOp, ho, hxv, hyv]
      have := run_make (P := P) w t e ei ezz hd hei hezz k k' L C h0 h1 (by rw [heb]; exact hb) h63
      simp only [Sem.run_bind, this, Result.andThen, Sem.run_pure]
      rfl
    · intro r row hrow
      obtain ⟨hlt, hrow⟩ := List.getElem?_eq_some_iff.1 hrow
      rw [List.getElem_replicate] at hrow
      subst hrow
      simp only [List.length_replicate] at hlt
      refine ⟨by simp [hz], fun j cv hj => ?_⟩
      rw [List.getElem?_map] at hj
      cases hzj : ez[j]? with
      | none => simp [hzj] at hj
      | some y =>
        simp only [hzj, Option.map_some, Option.some.injEq] at hj
        subst hj
        have hjl : j < es := by rw [← hz]; exact (List.getElem?_eq_some_iff.1 hzj).1
        refine ⟨y, ?_, List.all_eq_true.1 hone y (List.mem_of_getElem? hzj), .v _ y⟩
        rw [hes, made_get hzs (by omega) hjl, ← Array.getElem?_toList, hezl]
        exact hzj
    · intro m' w' hm
      have hbk : (m' n).blk = w.heap.size := by rw [hm]
      rw [← hbk]
      exact .sl _ n 0 _ 0 _ (.inr ⟨Nat.le_refl _, Nat.lt_succ_self _⟩) (by rw [hm]) (by simp) (by rw [hm]; simp)
def Bnd (T : Tp) (b : Option Operand) (dft v : Nat) : Prop := match b with
  | none => v = dft
  | some y => ∃ k q, evalA T y = some (.v (.int k q)) ∧ 0 ≤ q ∧ v = q.toNat
theorem run_bounds {a : Act} (ht : TRel K w m S N T a) (isS : Bool) {lo hi : Option Operand} {len cap l h : Nat} (hlo : Bnd T lo 0 l) (hhi : Bnd T hi len h) (h1 : l ≤ h) (h2 : h ≤ len) (h3 : len ≤ cap) :
    (Instr.sliceBounds isS len cap (lo.map a.eval) (hi.map a.eval) none).run P w = .ok (l, h, cap) w := by
  have bd : ∀ {y : Operand} {k : IntKind} {q : Int} {v m' : Nat} (code : BoundsCode), evalA T y = some (.v (.int k q)) → 0 ≤ q → v = q.toNat → v ≤ m' → (Instr.sliceBound (a.eval y) m' code).run P w = .ok v w := by
    intro y k q v m' code h1 h2 h3 h4
    have hv := ht.eval h1
    generalize a.eval y = yv at hv
    cases hv
    subst h3
    simp only [Instr.sliceBound, asIntOf, Sem.run_bind, Sem.run_pure, Result.andThen]
    rw [if_pos ⟨h2, by omega⟩]
    rfl
  cases lo with
  | none =>
    cases hi with
    | none =>
      simp only [Bnd] at hlo hhi
      subst hlo hhi
      simp [Instr.sliceBounds]
    | some y =>
      simp only [Bnd] at hlo
      obtain ⟨k, q, e1, e2, e3⟩ := hhi
      subst hlo
      simp [Instr.sliceBounds, Result.andThen, bd _ e1 e2 e3 (show h ≤ cap by omega)]
  | some x =>
    obtain ⟨k', q', f1, f2, f3⟩ := hlo
    cases hi with
    | none =>
      simp only [Bnd] at hhi
      subst hhi
      simp [Instr.sliceBounds, Result.andThen, bd _ f1 f2 f3 h1]
    | some y =>
      obtain ⟨k, q, e1, e2, e3⟩ := hhi
      simp [Instr.sliceBounds, Result.andThen, bd _ e1 e2 e3 (show h ≤ cap by omega), bd _ f1 f2 f3 h1]
end
end Go.Proofs.Ytljpgbgokjiamaa.Aw

namespace Go.Proofs.Ytljpgbgokjiamaa.Aw
open Go Go.RowKit
def mxI (a b : Int) : Int := if b > a then b else a
section
variable {P : Program} {Old : Nat → Prop} {wi : WI Old} {K : Nat → Prop} {m : Nat → Loc} {S : Nat → Prop} {H : Hp} {w : World} {N n : Nat} {T : Tp} {o : Oper}
theorem s_max {x y : Operand} {ts : Array TypeId} {k : IntKind} {p q : Int} (ho : o.op = .call { callee := .builtin .max, args := #[x, y], argTypes := ts }) (hx : evalA T x = some (.v (.int k p))) (hy : evalA T y = some (.v (.int k q))) :
    Step P o N T H n (.v (.int k (mxI p q))) H n true :=
  Step.still fun Old wi K m S a w hr ht => by
    have h1 := ht.eval hx
    have h2 := ht.eval hy
    generalize hxv : a.eval x = xv at h1
    generalize hyv : a.eval y = yv at h2
    cases h1
    cases h2
    exact ⟨_, by simp [execOp, ho, resolve, invoke, builtin, Builtin.max_, Builtin.max2, hxv, hyv, mxI], .v _ _⟩
def VRl (K : Nat → Prop) (w : World) (m : Nat → Loc) (S : Nat → Prop) (cs : List AV) (xs : List Value) : Prop :=
  xs.length = cs.length ∧ ∀ (j : Nat) (cv : AV) (y : Value), cs[j]? = some cv → xs[j]? = some y → VR K w m S cv y
theorem VRl.get {cs : List AV} {xs : List Value} (h : VRl K w m S cs xs) {j : Nat} {cv : AV} (hj : cs[j]? = some cv) : ∃ y, xs[j]? = some y ∧ VR K w m S cv y := by
  have hlt : j < xs.length := by rw [h.1]; exact (List.getElem?_eq_some_iff.1 hj).1
  exact ⟨_, List.getElem?_eq_getElem hlt, h.2 j cv _ hj (List.getElem?_eq_getElem hlt)⟩
theorem VRl.map_v (xs : List Value) : VRl K w m S (xs.map .v) xs :=
  ⟨by simp, fun j cv y h1 h2 => by rw [List.getElem?_map, h2] at h1; simp at h1; subst h1; exact .v _ _⟩
theorem VRl.splice {cs ds : List AV} {xs ys : List Value} {p : Nat} (h : VRl K w m S cs xs) (h2 : VRl K w m S ds ys) (hp : p + ds.length ≤ cs.length) : VRl K w m S (Aw.splice cs ds p) (xs.take p ++ ys ++ xs.drop (p + ys.length)) := by
  refine ⟨by rw [splice_len _ _ _ hp]; simp [h.1, h2.1]; omega, fun j cv y g1 g2 => ?_⟩
  rw [spliceA_get _ _ _ _ hp] at g1
  rw [splice_get _ _ _ _ (by rw [h.1, h2.1]; exact hp), h2.1] at g2
  by_cases hj : j < p
  · rw [if_pos hj] at g1 g2; exact h.2 _ _ _ g1 g2
  · rw [if_neg hj] at g1 g2
    by_cases hj2 : j < p + ds.length
    · rw [if_pos hj2] at g1 g2; exact h2.2 _ _ _ g1 g2
    · rw [if_neg hj2] at g1 g2; exact h.2 _ _ _ g1 g2
theorem fill_fold (off : Nat) : ∀ (l : List Value) (k : Nat) (cells : Array Value), off + k + l.length ≤ cells.size →
    ((l.zipIdx k).foldl (fun cs (p : Value × Nat) => cs.setIfInBounds (off + p.2) p.1) cells).toList = cells.toList.take (off + k) ++ l ++ cells.toList.drop (off + k + l.length)
  | [], k, cells, _ => by simp
  | x :: l, k, cells, h => by
    simp only [List.length_cons] at h
    rw [List.zipIdx_cons, List.foldl_cons, fill_fold off l (k + 1) _ (by simp; omega)]
    simp only [Array.toList_setIfInBounds, List.length_cons]
    have hlt : off + k < cells.toList.length := by simp; omega
    rw [show off + (k + 1) = off + k + 1 by omega, List.take_set, List.drop_set]
    rw [if_pos (by omega)]
    rw [List.take_add_one, List.set_append]
    have h1 : (List.take (off + k) cells.toList).length = off + k := by rw [List.length_take]; omega
    rw [if_neg (by omega), h1, Nat.sub_self, List.getElem?_eq_getElem hlt]
    simp [Nat.add_assoc, Nat.add_comm 1]
def fillA (place : Nat → Option (Nat × Nat)) : List AV → List (Nat × AV) → Option (List AV)
  | cs, [] => some cs
  | cs, (i, v) :: rest => match place i with
    | some (off, size) => match Nat.beq (cellsA v).length size && Nat.ble (off + size) cs.length with
      | true => fillA place (splice cs (cellsA v) off) rest
      | false => none
    | none => none
theorem fill_vr (place : Nat → Option (Nat × Nat)) : ∀ (parts : List (Nat × AV)) (ps : List (Nat × Value)) (cs cs' : List AV) (cells : Array Value), VRl K w m S cs cells.toList → fillA place cs parts = some cs' → ps.length = parts.length →
    (∀ (j i : Nat) (v : AV), parts[j]? = some (i, v) → ∃ x, ps[j]? = some (i, x) ∧ VR K w m S v x) → ∃ xs, Instr.fill place cells ps = some xs ∧ VRl K w m S cs' xs.toList
  | [], ps, cs, cs', cells, h, hf, hl, _ => by
    simp only [fillA, Option.some.injEq] at hf
    subst hf
    cases ps with
    | nil => exact ⟨cells, rfl, h⟩
    | cons p ps => simp at hl
  | (i, v) :: parts, [], cs, cs', cells, _, _, hl, _ => by simp at hl
  | (i, v) :: parts, (i', x) :: ps, cs, cs', cells, h, hf, hl, hp => by
    obtain ⟨y, hy, hv⟩ := hp 0 i v rfl
    simp only [List.getElem?_cons_zero, Option.some.injEq, Prod.mk.injEq] at hy
    obtain ⟨rfl, rfl⟩ := hy
    simp only [fillA] at hf
    cases hpl : place i' with
    | none => simp [hpl] at hf
    | some os =>
      obtain ⟨off, size⟩ := os
      simp only [hpl] at hf
      split at hf
      · rename_i hc
        simp only [Bool.and_eq_true, Nat.ble_eq] at hc
        obtain ⟨hc1, hc2⟩ := hc
        have hc1 := Nat.eq_of_beq_eq_true hc1
        obtain ⟨hcl, hcv⟩ := hv.cells
        have hxs : x.cells.size = size := by rw [← hc1, ← hcl]; simp
        have hcs : cells.size = cs.length := by have := h.1; simpa using this
        simp only [Instr.fill, hpl]
        have hno : ¬ (x.cells.size ≠ size || off + x.cells.size > cells.size) = true := by simp [hxs, hcs]; omega
        rw [if_neg hno]
        have hfold : (x.cells.zipIdx.foldl (fun cs (c, j) => cs.setIfInBounds (off + j) c) cells).toList = cells.toList.take off ++ x.cells.toList ++ cells.toList.drop (off + x.cells.toList.length) := by
          rw [← Array.foldl_toList, Array.toList_zipIdx]
          exact fill_fold off x.cells.toList 0 cells (by simp [hxs, hcs]; omega)
        refine fill_vr place parts ps _ cs' _ ?_ hf (by simpa using hl) (fun j k u hj => by have := hp (j + 1) k u (by simpa using hj); simpa using this)
        rw [hfold]
        exact h.splice ⟨hcl, hcv⟩ (by rw [hc1]; exact hc2)
      · cases hf
theorem run_mapM {α β : Type} (f : α → Sem β) (g : α → β) (w : World) : ∀ (l : List α), (∀ x ∈ l, (f x).run P w = .ok (g x) w) → (l.mapM f).run P w = .ok (l.map g) w
  | [], _ => rfl
  | x :: l, h => by
    rw [List.mapM_cons, Sem.run_bind, h x List.mem_cons_self]
    simp only [Result.andThen, Sem.run_bind, run_mapM f g w l (fun y hy => h y (List.mem_cons_of_mem _ hy)), Sem.run_pure, List.map_cons]
theorem evals_parts {a : Act} (ht : TRel K w m S N T a) : ∀ (l : List (Nat × Operand)) (ps : List (Nat × AV)), l.mapM (fun p => (evalA T p.2).map fun v => (p.1, v)) = some ps →
    (l.map fun p => (p.1, a.eval p.2)).length = ps.length ∧ ∀ (j i : Nat) (v : AV), ps[j]? = some (i, v) → ∃ x, (l.map fun p => (p.1, a.eval p.2))[j]? = some (i, x) ∧ VR K w m S v x := by
  intro l ps h
  obtain ⟨h1, h2⟩ : ps.length = l.length ∧ ∀ (j : Nat) (y : Nat × AV), ps[j]? = some y → ∃ x, l[j]? = some x ∧ (evalA T x.2).map (fun v => (x.1, v)) = some y := by
    clear ht
    induction l generalizing ps with
    | nil => simp at h; subst h; simp
    | cons x l ih =>
      rw [List.mapM_cons] at h
      cases hx : (evalA T x.2).map fun v => (x.1, v) with
      | none => simp [hx] at h
      | some y =>
        cases hl : l.mapM (fun p => (evalA T p.2).map fun v => (p.1, v)) with
        | none => simp [hx, hl] at h
        | some ys =>
          simp only [hx, hl, Option.pure_def, Option.bind_eq_bind, Option.bind_some, Option.some.injEq] at h
          subst h
          obtain ⟨i1, i2⟩ := ih ys hl
          refine ⟨by simp [i1], fun j z hj => ?_⟩
          cases j with
          | zero => simp at hj; subst hj; exact ⟨x, rfl, hx⟩
          | succ j => simp only [List.getElem?_cons_succ] at hj ⊢; exact i2 j z hj
  refine ⟨by simp [h1], fun j i v hj => ?_⟩
  obtain ⟨x, hx, he⟩ := h2 j (i, v) hj
  cases hev : evalA T x.2 with
  | none => simp [hev] at he
  | some u =>
    simp only [hev, Option.map_some, Option.some.injEq, Prod.mk.injEq] at he
    obtain ⟨rfl, rfl⟩ := he
    exact ⟨a.eval x.2, by rw [List.getElem?_map, hx]; rfl, ht.eval hev⟩
def plS (fs : List (Nat × Nat × Bool)) (i : Nat) : Option (Nat × Nat) := match fs[i]? with
  | some (o, s, _) => some (o, s)
  | none => none
theorem s_build {t : TypeId} {ti : TI} {parts : Array (Nat × Operand)} {ps : List (Nat × AV)} {cs : List AV} {fs : List (Nat × Nat × Bool)} (ho : o.op = .build t parts) (hty : tiOf P t = some ti) (hk : ti.k = .struct fs)
    (hp : parts.toList.mapM (fun p => (evalA T p.2).map fun v => (p.1, v)) = some ps) (hc : fillA (plS fs) (ti.zero.map .v) ps = some cs) : Step P o N T H n (.agg cs) H n true := by
  obtain ⟨i, d, z, hi, hd, hzz, hsz, hagg, hby, hzl, htk⟩ := tiOf_spec hty
  rw [hk] at htk
  obtain ⟨fields, rfl, hfs, hall⟩ := tk_struct htk
  refine Step.still fun Old wi K m S a w hr ht => ?_
  obtain ⟨e1, e2⟩ := evals_parts ht _ _ hp
  have hzv : VRl K w m S (ti.zero.map .v) z.cells.toList := by rw [hzl]; exact VRl.map_v _
  obtain ⟨xs, hx, hv⟩ := fill_vr _ ps (parts.toList.map fun p => (p.1, a.eval p.2)) _ cs z.cells hzv hc e1 e2
  refine ⟨.agg xs.toList.toArray, ?_, .agg _ _ _ hv.1 hv.2⟩
  have hpl : (fields.mapM fun f => do pure (f.offset, ← sizeOf f.type) : Sem (Array (Nat × Nat))).run P w = .ok (fields.toList.map fun f => (f.offset, P.cellsOf f.type)).toArray w := by
    obtain ⟨fl⟩ := fields
    simp only [List.mapM_toArray, Sem.run_map]
    rw [run_mapM _ (fun f => (f.offset, P.cellsOf f.type)) w fl]
    · rfl
    · intro f hf
      have := Array.all_eq_true_iff_forall_mem.1 hall f (by simpa using hf)
      simp only [Bool.and_eq_true, Option.isSome_iff_exists] at this
      obtain ⟨_, ii, hii⟩ := this
      simp [run_sizeOf w hii, Result.andThen]
  have hplace : (fun i => ((fields.toList.map fun f => (f.offset, P.cellsOf f.type)).toArray)[i]?) = plS fs := by
    funext i
    unfold plS
    rw [hfs]
    simp only [List.getElem?_toArray, List.getElem?_map]
    cases fields.toList[i]? <;> rfl
  have hparts : (parts.map fun (p : Nat × Operand) => (p.1, a.eval p.2)).toList = parts.toList.map fun p => (p.1, a.eval p.2) := by simp
  simp only [execOp, ho, Instr.build, Sem.run_bind, zeroValue, run_typeInfo w hi, Result.andThen, hzz, Sem.run_pure, run_underlying hd, hpl]
  have hx' : Instr.fill (fun i => ((fields.toList.map fun f => (f.offset, P.cellsOf f.type)).toArray)[i]?) z.cells (parts.map fun (p : Nat × Operand) => (p.1, a.eval p.2)).toList = some xs := by rw [hplace, hparts]; exact hx
  rw [hx']
  simp
end
end Go.Proofs.Ytljpgbgokjiamaa.Aw

namespace Go.Proofs.Ytljpgbgokjiamaa.Aw
open Go Go.RowKit
set_option linter.unusedSimpArgs false
set_option linter.unusedVariables false
section
variable {Old : Nat → Prop} {wi : WI Old} {K : Nat → Prop} {m : Nat → Loc} {S : Nat → Prop} {H : Hp} {w : World}
theorem OB.cong {i j : Nat} {b : Blk} (h : OB K w m S i b) (e : m j = m i) : OB K w m S j b := by
  rcases h with ⟨p1, p2⟩ | ⟨p1, hb⟩
  · exact .inl ⟨by rw [e]; exact p1, p2⟩
  · exact .inr ⟨by rw [e]; exact p1, by rw [e]; exact hb.nk, by rw [e]; exact hb.sz, by rw [e]; exact hb.cap, by rw [e]; exact hb.capm, hb.plv, by rw [e]; exact hb.ex⟩
theorem look_del {H : Hp} {id i : Nat} {b : Blk} (h : look (del H id) i = some b) : i ≠ id ∧ look H i = some b := by
  by_cases he : i = id
  · subst he; rw [look_del_same] at h; cases h
  · rw [look_del_ne _ he] at h; exact ⟨he, h⟩
theorem Rel.rename (hr : Rel Old wi K m S H w) {id n : Nat} {b : Blk} (hl : look H id = some b) (hn : ¬ S n) : Rel Old wi K (updL m n (m id)) (addS S n (n + 1)) ((n, b) :: del H id) w := by
  have hm : ∀ i, S i → updL m n (m id) i = m i := fun i hi => updL_ne _ _ (fun e => hn (e ▸ hi))
  have r1 := hr.monoS (S' := addS S n (n + 1)) (m' := updL m n (m id)) (fun i hi => .inl hi) hm
  have e : updL m n (m id) n = updL m n (m id) id := by rw [updL_same, hm id (hr.inS id b hl)]
  have part : ∀ i bi, look ((n, b) :: del H id) i = some bi → (i = n ∧ bi = b) ∨ (i ≠ n ∧ i ≠ id ∧ look H i = some bi) := fun i bi h => by
    rw [look_cons] at h
    split at h
    · rename_i he; simp only [Option.some.injEq] at h; exact .inl ⟨he.symm, h.symm⟩
    · rename_i he; obtain ⟨h1, h2⟩ := look_del h; exact .inr ⟨fun e => he e.symm, h1, h2⟩
  refine { r1 with inS := ?_, oown := ?_, om := ?_, own := ?_, inj := ?_ }
  · intro i bi h
    rcases part i bi h with ⟨rfl, rfl⟩ | ⟨_, _, h2⟩
    · rw [e]; exact r1.oown id bi hl
    · exact r1.oown i bi h2
  · intro i bi h
    rcases part i bi h with ⟨rfl, rfl⟩ | ⟨_, _, h2⟩
    · rw [e]; exact r1.om id bi hl
    · exact r1.om i bi h2
  · intro i bi h
    rcases part i bi h with ⟨rfl, rfl⟩ | ⟨_, _, h2⟩
    · exact .inr ⟨Nat.le_refl _, Nat.lt_succ_self _⟩
    · exact r1.inS i bi h2
  · intro i bi h
    rcases part i bi h with ⟨rfl, rfl⟩ | ⟨_, _, h2⟩
    · exact (r1.own id bi hl).cong e
    · exact r1.own i bi h2
  · intro i j bi bj h1 h2 hne
    rcases part i bi h1 with ⟨rfl, rfl⟩ | ⟨hi, hi', hhi⟩ <;> rcases part j bj h2 with ⟨rfl, rfl⟩ | ⟨hj, hj', hhj⟩
    · exact absurd rfl hne
    · rw [e]; exact r1.inj id j bi bj hl hhj (fun e => hj' e.symm)
    · rw [e]; exact r1.inj i id bi bj hhi hl hi'
    · exact r1.inj i j bi bj hhi hhj hne
theorem Rel.phantom (hr : Rel Old wi K m S H w) {n : Nat} (hn : ¬ S n) (ty sz : Nat) (pl : Bool) : Rel Old wi K (updL m n ⟨0, 0, 0, true⟩) (addS S n (n + 1)) ((n, ⟨ty, sz, pl, []⟩) :: H) w := by
  have hm : ∀ i, S i → updL m n ⟨0, 0, 0, true⟩ i = m i := fun i hi => updL_ne _ _ (fun e => hn (e ▸ hi))
  have r1 := hr.monoS (S' := addS S n (n + 1)) (m' := updL m n ⟨0, 0, 0, true⟩) (fun i hi => .inl hi) hm
  have hp : (updL m n ⟨0, 0, 0, true⟩ n).ph = true := by rw [updL_same]
  have part : ∀ i bi, look ((n, (⟨ty, sz, pl, []⟩ : Blk)) :: H) i = some bi → (i = n ∧ bi = ⟨ty, sz, pl, []⟩) ∨ (i ≠ n ∧ look H i = some bi) := fun i bi h => by
    rw [look_cons] at h
    split at h
    · rename_i he; simp only [Option.some.injEq] at h; exact .inl ⟨he.symm, h.symm⟩
    · rename_i he; exact .inr ⟨fun e => he e.symm, h⟩
  refine { r1 with inS := ?_, oown := ?_, om := ?_, own := ?_, inj := ?_ }
  · intro i bi h
    rcases part i bi h with ⟨rfl, rfl⟩ | ⟨_, h2⟩
    · intro h; rw [hp] at h; cases h
    · exact r1.oown i bi h2
  · intro i bi h
    rcases part i bi h with ⟨rfl, rfl⟩ | ⟨_, h2⟩
    · intro _ h; rw [updL_same] at h; cases h
    · exact r1.om i bi h2
  · intro i bi h
    rcases part i bi h with ⟨rfl, rfl⟩ | ⟨_, h2⟩
    · exact .inr ⟨Nat.le_refl _, Nat.lt_succ_self _⟩
    · exact r1.inS i bi h2
  · intro i bi h
    rcases part i bi h with ⟨rfl, rfl⟩ | ⟨_, h2⟩
    · exact .inl ⟨hp, rfl⟩
    · exact r1.own i bi h2
  · intro i j bi bj h1 h2 hne
    rcases part i bi h1 with ⟨rfl, rfl⟩ | ⟨hi, hhi⟩ <;> rcases part j bj h2 with ⟨rfl, rfl⟩ | ⟨hj, hhj⟩
    · exact absurd rfl hne
    · intro h; rw [hp] at h; cases h
    · intro _ h; rw [hp] at h; cases h
    · exact r1.inj i j bi bj hhi hhj hne
end
def SrcA (P : Program) (H : Hp) (size : Nat) (tx : TypeId) (av : AV) (rows : List (List AV)) : Prop :=
  ∀ (Old : Nat → Prop) (wi : WI Old) (K : Nat → Prop) (m : Nat → Loc) (S : Nat → Prop) (w : World) (x : Value), Rel Old wi K m S H w → VR K w m S av x →
    ∃ news : List Value, Src P size tx x rows.length news w ∧ ∀ (r : Nat) (row : List AV), rows[r]? = some row → row.length = size ∧ ∀ (j : Nat) (cv : AV), row[j]? = some cv → ∃ y, news[r * size + j]? = some y ∧ VR K w m S cv y
theorem divmod {r j s : Nat} (hj : j < s) : (r * s + j) / s = r ∧ (r * s + j) % s = j := by
  have hs : 0 < s := by omega
  rw [Nat.mul_comm]
  exact ⟨by rw [Nat.mul_add_div hs, Nat.div_eq_of_lt hj, Nat.add_zero], by rw [Nat.mul_add_mod, Nat.mod_eq_of_lt hj]⟩
theorem flat_lt {r j s n : Nat} (hr : r < n) (hj : j < s) : r * s + j < n * s := by
  have : (r + 1) * s ≤ n * s := Nat.mul_le_mul_right _ hr
  rw [Nat.add_mul] at this; omega
section
variable {P : Program} {H : Hp} {size : Nat} {tx : TypeId} {rows : List (List AV)}
theorem src_cells {w : World} {e' : TypeId} (hk : P.underlying tx = some (.slice e')) (blk off n c : Nat) (f : Nat → Nat → Value) (hn : n = rows.length) (hl : ∀ (r : Nat) (row : List AV), rows[r]? = some row → row.length = size)
    (h : ∀ (r : Nat) (row : List AV) (j : Nat) (cv : AV), rows[r]? = some row → row[j]? = some cv → w.cell? ⟨blk, off + r * size + j, none⟩ = some (f r j) ∧ (f r j).oneCell' = true) :
    ∃ news : List Value, Src P size tx (.slice (some ⟨blk, off, none⟩) n c) rows.length news w ∧ ∀ (r : Nat) (row : List AV) (j : Nat) (cv : AV), rows[r]? = some row → row[j]? = some cv → news[r * size + j]? = some (f r j) := by
  subst hn
  let news := (List.range (rows.length * size)).map fun k => f (k / size) (k % size)
  have key : ∀ k, k < rows.length * size → w.cell? ⟨blk, off + k, none⟩ = some (f (k / size) (k % size)) ∧ (f (k / size) (k % size)).oneCell' = true := fun k hk => by
    have hs : 0 < size := by rcases Nat.eq_zero_or_pos size with e | e; · subst e; simp at hk
                             · exact e
    have hr : k / size < rows.length := by rw [Nat.div_lt_iff_lt_mul hs]; exact hk
    have hj := Nat.mod_lt k hs
    have hrow := List.getElem?_eq_getElem hr
    have hlen := hl _ _ hrow
    have hcv : (rows[k / size])[k % size]? = some ((rows[k / size])[k % size]'(by omega)) := List.getElem?_eq_getElem (by omega)
    have := h _ _ _ _ hrow hcv
    rw [Nat.add_assoc, show k / size * size + k % size = k by rw [Nat.mul_comm]; exact Nat.div_add_mod k size] at this
    exact this
  refine ⟨news, Src.ofSlice w hk ⟨blk, off, none⟩ rows.length c news (by simp [news]) (fun j u hj => ?_) (fun u hu => ?_), fun r row j cv hr hj => ?_⟩
  · simp only [news, List.getElem?_map] at hj
    cases hj' : (List.range (rows.length * size))[j]? with
    | none => simp [hj'] at hj
    | some k =>
      simp only [hj', Option.map_some, Option.some.injEq] at hj
      subst hj
      obtain ⟨hlt, hk'⟩ := List.getElem?_eq_some_iff.1 hj'
      simp at hk' hlt
      subst hk'
      rw [Go.WideShapes.add_plain]
      exact (key _ hlt).1
  · obtain ⟨k, hk', rfl⟩ := List.mem_map.1 hu
    exact (key k (List.mem_range.1 hk')).2
  · have hrl : r < rows.length := (List.getElem?_eq_some_iff.1 hr).1
    have hjl : j < size := by rw [← hl r row hr]; exact (List.getElem?_eq_some_iff.1 hj).1
    obtain ⟨d1, d2⟩ := divmod (r := r) hjl
    simp only [news, List.getElem?_map, List.getElem?_range (flat_lt hrl hjl), Option.map_some, d1, d2]
theorem src_none {w : World} {e' : TypeId} (hk : P.underlying tx = some (.slice e')) (a : Option Addr) (c : Nat) : Src P size tx (.slice a 0 c) 0 [] w := by
  cases a with
  | none => exact Src.ofNil w hk c
  | some a => exact Src.ofSlice w hk a 0 c [] (by simp) (by simp) (by simp)
theorem src_dsl {ti : TI} {e : TypeId} {es eb : Nat} {ez : List Value} (hty : tiOf P tx = some ti) (hk : ti.k = .slice e es eb ez) : SrcA P H size tx (.dsl size rows) rows := by
  intro Old wi K m S w x hr hv
  obtain ⟨i, d, z, hi, hd, hzz, hsz, hagg, hby, hzl, htk⟩ := tiOf_spec hty
  rw [hk] at htk
  obtain ⟨ei, ezz, rfl, hei, _, hes, _, _⟩ := tk_slice htk
  cases hv with
  | dsl0 _ _ a c => exact ⟨[], src_none hd a c, by simp⟩
  | dsl _ _ _ n b o c xs hn hc hK hl hx hv =>
    obtain ⟨news, h1, h2⟩ := src_cells hd b o n c xs hn hl hx
    exact ⟨news, by rw [hn] at h1 ⊢; exact h1, fun r row hr => ⟨hl r row hr, fun j cv hj => ⟨_, h2 r row j cv hr hj, (hv r row j cv hr hj).mono (fun _ h => h) (fun _ _ => rfl) (fun _ h => h.elim) (fun _ h => h.elim)⟩⟩⟩
theorem src_sl {ti : TI} {e : TypeId} {es eb : Nat} {ez : List Value} {id r0 len : Nat} {b : Blk} (hty : tiOf P tx = some ti) (hk : ti.k = .slice e es eb ez) (hl : look H id = some b) (hb : b.size = size) (hn : r0 + len ≤ b.rows.length) (he : (b.rows.drop r0).take len = rows) :
    SrcA P H size tx (.sl id r0 len) rows := by
  intro Old wi K m S w x hr hv
  obtain ⟨i, d, z, hi, hd, hzz, hsz, hagg, hby, hzl, htk⟩ := tiOf_spec hty
  rw [hk] at htk
  obtain ⟨ei, ezz, rfl, hei, _, hes, _, _⟩ := tk_slice htk
  subst he
  have hlen : ((b.rows.drop r0).take len).length = len := by simp; omega
  cases hv with
  | sl0 _ _ _ ad hS => exact ⟨[], by rw [hlen]; exact src_none hd ad 0, by simp⟩
  | sl _ _ _ _ o c hS hph ho hc =>
    have hbr := (hr.own id b hl).br hph
    obtain ⟨cur, h1, h2, h3⟩ := hbr.ex
    let f : Nat → Nat → Value := fun r j => (w.cell? ⟨(m id).blk, o + r * b.size + j, none⟩).getD undef
    have cell : ∀ (q : Nat) (rw_ : List AV), ((b.rows.drop r0).take len)[q]? = some rw_ → rw_.length = b.size ∧ ∀ (j : Nat) (cv : AV), rw_[j]? = some cv → w.cell? ⟨(m id).blk, o + q * b.size + j, none⟩ = some (f q j) ∧ (f q j).oneCell' = true ∧ VR K w m (fun i => S i ∧ b.pl = false) cv (f q j) := by
      intro q rw_ hq
      rw [List.getElem?_take] at hq
      split at hq
      · rw [List.getElem?_drop] at hq
        refine ⟨(h3 _ _ hq).1, fun j cv hj => ?_⟩
        obtain ⟨y, hy, hone, hvy⟩ := (h3 _ _ hq).2 j cv hj
        have hy' : w.cell? ⟨(m id).blk, o + q * b.size + j, none⟩ = some y := by
          rw [cell_of_row w _ _ _ _ _ h1, ho, hbr.sz, ← Nat.add_mul]; exact hy
        simp only [f, hy', Option.getD_some]
        exact ⟨trivial, hone, hvy⟩
      · cases hq
    subst hb
    obtain ⟨news, g1, g2⟩ := src_cells (rows := (b.rows.drop r0).take len) hd (m id).blk o len c f hlen.symm (fun r row hr => (cell r row hr).1) (fun r row j cv hr hj => ⟨((cell r row hr).2 j cv hj).1, ((cell r row hr).2 j cv hj).2.1⟩)
    exact ⟨news, g1, fun r row hr => ⟨(cell r row hr).1, fun j cv hj => ⟨_, g2 r row j cv hr hj, ((cell r row hr).2 j cv hj).2.2.mono (fun _ h => h) (fun _ _ => rfl) (fun _ h => h.1) (fun _ _ => rfl)⟩⟩⟩
end
section
variable {P : Program} {H : Hp} {N n : Nat} {T : Tp} {o : Oper}
theorem run_append_room_row {w : World} {t tx ty e : TypeId} {i : TypeInfo} (ht : P.underlying t = some (.slice e)) (hi : P.info? e = some i) (b off sLen sCap : Nat) (x : Value) (n : Nat) (news : List Value) (hs : Src P i.size tx x n news w)
    (hroom : sLen + n ≤ sCap) (bt : TypeId) (cur : Array Value) (hg : w.heap[b]? = some (.cells cur bt (0, 0))) (hfit : off + sLen * i.size + news.length ≤ cur.size) :
    (Builtin.append_ #[t, tx] ty #[.slice (some ⟨b, off, none⟩) sLen sCap, x]).run P w = .ok (.slice (some ⟨b, off, none⟩) (sLen + n) sCap) (w.setRow b (cur.toList.take (off + sLen * i.size) ++ news ++ cur.toList.drop (off + sLen * i.size + news.length)).toArray) := by
  have hst := run_storeCells_at P b (off + sLen * i.size) bt news 0 cur w hg (by simpa using hfit) hs.one
  simp only [Nat.add_zero] at hst
  rcases hs.kind with ⟨e', hk⟩ | hk <;> simp [Builtin.append_, run_underlying ht, run_underlying hk, sizeOf, typeInfo, hi, hs.len, hroom, hs.cells, Addr.add_lit, hst]
theorem cat_rows {A B : List (List AV)} {K : Nat → Prop} {w : World} {m : Nat → Loc} {S S' : Nat → Prop} {sz : Nat} {c : Nat → Option Value} (hA : ∀ (r : Nat) (row : List AV), A[r]? = some row → row.length = sz ∧ ∀ (j : Nat) (cv : AV), row[j]? = some cv → ∃ x, c (r * sz + j) = some x ∧ x.oneCell' = true ∧ VR K w m S cv x)
    (hB : ∀ (r : Nat) (row : List AV), B[r]? = some row → row.length = sz ∧ ∀ (j : Nat) (cv : AV), row[j]? = some cv → ∃ x, c (A.length * sz + (r * sz + j)) = some x ∧ x.oneCell' = true ∧ VR K w m S cv x) :
    ∀ (r : Nat) (row : List AV), (A ++ B)[r]? = some row → row.length = sz ∧ ∀ (j : Nat) (cv : AV), row[j]? = some cv → ∃ x, c (r * sz + j) = some x ∧ x.oneCell' = true ∧ VR K w m S cv x := by
  intro r row hr
  by_cases h : r < A.length
  · rw [List.getElem?_append_left h] at hr
    exact hA r row hr
  · rw [List.getElem?_append_right (by omega)] at hr
    obtain ⟨h1, h2⟩ := hB _ row hr
    refine ⟨h1, fun j cv hj => ?_⟩
    have := h2 j cv hj
    rw [← Nat.add_assoc, ← Nat.add_mul, show A.length + (r - A.length) = r by omega] at this
    exact this
theorem all_rows {rows : List (List AV)} (h : (rows.all fun r => r.all isV) = true) {r : Nat} {row : List AV} (hr : rows[r]? = some row) {j : Nat} {cv : AV} (hj : row[j]? = some cv) : isV cv = true :=
  List.all_eq_true.1 (List.all_eq_true.1 h row (List.mem_of_getElem? hr)) cv (List.mem_of_getElem? hj)
theorem VR.plain {K : Nat → Prop} {w : World} {m : Nat → Loc} {S S' : Nat → Prop} {cv : AV} {x : Value} (h : VR K w m S cv x) (hv : isV cv = true) : VR K w m S' cv x := by
  cases cv <;> simp only [isV] at hv <;> try (cases hv)
  cases h; exact .v _ _
theorem VR.forPl {K : Nat → Prop} {w : World} {m : Nat → Loc} {S : Nat → Prop} {cv : AV} {x : Value} {pl : Bool} (h : VR K w m S cv x) (hv : pl = true → isV cv = true) : VR K w m (fun i => S i ∧ pl = false) cv x := by
  cases pl with
  | true => exact h.plain (hv rfl)
  | false => exact h.mono (fun _ h => h) (fun _ _ => rfl) (fun _ h => ⟨h, rfl⟩) (fun _ _ => rfl)
theorem zeroCells_size (z : Array Value) (n : Nat) : (Builtin.zeroCells z n).size = n * z.size := by simp [Builtin.zeroCells]
theorem grown_row {w : World} {K : Nat → Prop} {m : Nat → Loc} {S : Nat → Prop} {es : Nat} {A B : List (List AV)} {olds news : List Value} {z : Array Value} {extra : Nat} {pl : Bool} (hol : olds.length = A.length * es)
    (hA : ∀ (r : Nat) (row : List AV), A[r]? = some row → row.length = es ∧ ∀ (j : Nat) (cv : AV), row[j]? = some cv → ∃ y, olds[r * es + j]? = some y ∧ y.oneCell' = true ∧ VR K w m S cv y)
    (hB : ∀ (r : Nat) (row : List AV), B[r]? = some row → row.length = es ∧ ∀ (j : Nat) (cv : AV), row[j]? = some cv → ∃ y, news[r * es + j]? = some y ∧ VR K w m S cv y) (hone : ∀ u ∈ news, u.oneCell' = true)
    (hpl : pl = true → ((A ++ B).all fun r => r.all isV) = true) : ∀ (r : Nat) (row : List AV), (A ++ B)[r]? = some row → row.length = es ∧ ∀ (j : Nat) (cv : AV), row[j]? = some cv →
      ∃ x, ((olds ++ news).toArray ++ Builtin.zeroCells z extra)[r * es + j]? = some x ∧ x.oneCell' = true ∧ VR K w m (fun i => S i ∧ pl = false) cv x := by
  have key := cat_rows (A := A) (B := B) (K := K) (w := w) (m := m) (S := S) (S' := S) (sz := es) (c := fun k => (olds ++ news)[k]?) (fun r row hr => ⟨(hA r row hr).1, fun j cv hj => ?_⟩) (fun r row hr => ⟨(hB r row hr).1, fun j cv hj => ?_⟩)
  · intro r row hr
    obtain ⟨k1, k2⟩ := key r row hr
    refine ⟨k1, fun j cv hj => ?_⟩
    obtain ⟨x, h1, h2, h3⟩ := k2 j cv hj
    refine ⟨x, ?_, h2, h3.forPl fun e => all_rows (hpl e) hr hj⟩
    have hlt := (List.getElem?_eq_some_iff.1 h1).1
    rw [Array.getElem?_append_left (by simpa using hlt)]
    simpa using h1
  · obtain ⟨y, h1, h2, h3⟩ := (hA r row hr).2 j cv hj
    refine ⟨y, ?_, h2, h3⟩
    show (olds ++ news)[r * es + j]? = some y
    rw [List.getElem?_append_left (List.getElem?_eq_some_iff.1 h1).1]
    exact h1
  · obtain ⟨y, h1, h2⟩ := (hB r row hr).2 j cv hj
    refine ⟨y, ?_, hone y (List.mem_of_getElem? h1), h2⟩
    show (olds ++ news)[A.length * es + (r * es + j)]? = some y
    rw [← hol, List.getElem?_append_right (by omega), Nat.add_sub_cancel_left]
    exact h1
theorem run_app {a : Act} {x y : Operand} {t tx : TypeId} {w w' : World} {xv v : Value} (ho : o.op = .call { callee := .builtin .append, args := #[x, y], argTypes := #[t, tx] }) (hx : a.eval x = xv)
    (h : (Builtin.append_ #[t, tx] o.type #[xv, a.eval y]).run P w = .ok v w') : (execOp a.eval o).run P w = .ok (.value v) w' := by
  subst hx
  simp [execOp, ho, resolve, invoke, builtin, h, Result.andThen]
theorem run_app0 {w : World} {t tx ty e : TypeId} {i : TypeInfo} (ad : Option Addr) (x : Value) (news : List Value) (ht : P.underlying t = some (.slice e)) (hi : P.info? e = some i) (hs : Src P i.size tx x 0 news w) :
    (Builtin.append_ #[t, tx] ty #[.slice ad 0 0, x]).run P w = .ok (.slice ad 0 0) w := by
  have hn : news = [] := List.length_eq_zero_iff.1 (by have := hs.newsLen; simpa using this)
  subst hn
  have hc := hs.cells
  rcases hs.kind with ⟨e', hk⟩ | hk <;> cases ad <;> simp [Builtin.append_, run_underlying ht, run_underlying hk, sizeOf, typeInfo, hi, hs.len, hc, storeCells]
theorem s_append_own {x y : Operand} {t tx e : TypeId} {ti : TI} {es eb : Nat} {ez : List Value} {id len : Nat} {b : Blk} {av : AV} {rows : List (List AV)} (pl : Bool) (ho : o.op = .call { callee := .builtin .append, args := #[x, y], argTypes := #[t, tx] }) (hty : tiOf P t = some ti)
    (hk : ti.k = .slice e es eb ez) (hx : evalA T x = some (.sl id 0 len)) (hl : look H id = some b) (hbs : b.size = es) (hbt : b.ty = e) (hlen : len ≤ b.rows.length) (hy : evalA T y = some av) (hs : SrcA P H es tx av rows)
    (hb : eb * (2 * (len + rows.length)) ≤ 281474976710656) (h63 : len + rows.length ≤ 9223372036854775807) (hz : ez.length = es) (hpl : pl = true → b.pl = true ∧ (rows.all fun r => r.all isV) = true) :
    Step P o N T H n (.sl n 0 (len + rows.length)) ((n, ⟨e, es, pl, b.rows.take len ++ rows⟩) :: del H id) (n + 1) false := by
  obtain ⟨i, d, z, hi, hd, hzz, hsz, hagg, hby, hzl, htk⟩ := tiOf_spec hty
  rw [hk] at htk
  obtain ⟨ei, ezz, rfl, hei, hezz, hes, heb, hezl⟩ := tk_slice htk
  have hzs : ezz.cells.size = es := by rw [← hz, ← hezl]; simp
  refine ⟨Nat.le_succ _, fun Old wi K m S a w hS hr ht next Q hnx => ?_⟩
  have hns : ¬ S n := hS n (Nat.le_refl _) (Nat.lt_succ_self _)
  have hvx := ht.eval hx
  obtain ⟨news, hsrc, hnews⟩ := hs _ _ _ _ _ _ _ hr (ht.eval hy)
  generalize hxv : a.eval x = xv at hvx
  subst hes
  have hlA : (b.rows.take len).length = len := by rw [List.length_take]; omega
  have hplA : pl = true → ((b.rows.take len ++ rows).all fun r => r.all isV) = true := fun hp => by
    obtain ⟨h1, h2⟩ := hpl hp
    rw [List.all_append, h2, Bool.and_true, List.all_eq_true]
    intro r hr'
    rw [List.all_eq_true]
    intro cv hcv
    obtain ⟨j, hj⟩ := List.mem_iff_getElem?.1 (List.mem_of_mem_take hr')
    obtain ⟨q, hq⟩ := List.mem_iff_getElem?.1 hcv
    rcases hr.own id b hl with ⟨_, h3⟩ | ⟨_, hbr⟩
    · rw [h3] at hj; simp at hj
    · exact hbr.plv h1 j r hj q cv hq
  have hnewsM : ∀ (r : Nat) (row : List AV), rows[r]? = some row → row.length = ei.size ∧ ∀ (j : Nat) (cv : AV), row[j]? = some cv → ∃ y, news[r * ei.size + j]? = some y ∧ VR K (drw w (w.drawn + 1)) m S cv y :=
    fun r row hr => ⟨(hnews r row hr).1, fun j cv hj => by obtain ⟨y, h1, h2⟩ := (hnews r row hr).2 j cv hj; exact ⟨y, h1, h2.mono (fun _ h => h) (fun _ _ => rfl) (fun _ h => h) (fun _ _ => rfl)⟩⟩
  have hfit2 : ∀ old, old < len + rows.length → Builtin.nextslicecap (len + rows.length) old * ei.bytes ≤ 281474976710656 := fun old ho => by
    have := nextslicecap_le (need := len + rows.length) (old := old) ho
    have h2 : Builtin.nextslicecap (len + rows.length) old * ei.bytes ≤ 2 * (len + rows.length) * ei.bytes := Nat.mul_le_mul_right _ this
    rw [heb] at h2 ⊢
    rw [Nat.mul_comm (2 * (len + rows.length))] at h2
    omega
  unfold Oper.wp
  cases hvx with
  | sl0 _ _ _ ad hS0 =>
    by_cases h0 : rows.length = 0
    · have hrows : rows = [] := List.length_eq_zero_iff.1 h0
      subst hrows
      have hrun := run_app (P := P) ho hxv (w := w) (w' := w) (v := .slice ad 0 0) (run_app0 ad _ news hd hei hsrc)
      rw [hrun]
      have hrel := (hr.sub (H' := del H id) (fun i c h => (look_del h).2)).phantom hns e ei.size pl
      simp only [List.take_zero, List.nil_append, List.length_nil, Nat.add_zero] at hnx
      refine hnx _ _ _ K ⟨fun i hi => updL_ne _ _ (fun e => hi (by omega)), GK.refl _ _, hrel, .sl0 _ n 0 _ (.inr ⟨Nat.le_refl _, Nat.lt_succ_self _⟩), fun _ _ => rfl, fun h => by cases h⟩
    · have hrun := run_app (P := P) ho hxv (run_append_grow_src (P := P) w t tx o.type e ei ezz hd hei hezz ad 0 0 [] (by cases ad <;> simp [run_firstCells_none, Builtin.firstCells, loadCells, loadCellsFrom]) _ rows.length news hsrc (by omega) (by omega) (by simpa using hfit2 0 (by omega)))
      rw [hrun]
      simp only [Nat.zero_add]
      have hge := grownCap_ge w rows.length 0 e
      have hcm : grownCap w rows.length 0 e ≤ maxLen := grownCap_le_maxLen w _ _ e (by simp only [maxLen]; omega)
      generalize grownCap w rows.length 0 e = cap at hge hcm
      have hg := grown_row (w := drw w (w.drawn + 1)) (K := K) (m := m) (S := S) (es := ei.size) (A := []) (B := rows) (olds := []) (news := news) (z := ezz.cells) (extra := cap - rows.length) (pl := pl) (by simp) (by simp) hnewsM hsrc.one (fun hp => (hpl hp).2)
      have hrel := ((hr.sub (H' := del H id) (fun i c h => (look_del h).2)).drw (w.drawn + 1)).new hns ⟨e, ei.size, pl, rows⟩ cap ((([] : List Value) ++ news).toArray ++ Builtin.zeroCells ezz.cells (cap - rows.length)) hge hcm (fun hp r row hr j cv hj => all_rows (hpl hp).2 hr hj)
        (by simp only [List.nil_append, Array.size_append, List.size_toArray, zeroCells_size, hsrc.newsLen, hzs]; rw [← Nat.add_mul]; congr 1; omega) hg
      simp only [List.take_zero, List.nil_append, Nat.zero_add] at hnx
      refine hnx _ _ _ K ⟨fun i hi => updL_ne _ _ (fun e => hi (by omega)), GK.refl _ _, hrel, ?_, fun k hk => Below.heap_alloc _ _ _ (hr.kb k hk), fun h => by cases h⟩
      have hbk : (updL m n ⟨(drw w (w.drawn + 1)).heap.size, cap, ei.size, false⟩ n).blk = w.heap.size := by rw [updL_same]; rfl
      show VR K _ _ _ _ (.slice (some ⟨w.heap.size, 0, none⟩) rows.length cap)
      rw [← hbk]
      exact .sl _ n 0 _ 0 _ (.inr ⟨Nat.le_refl _, Nat.lt_succ_self _⟩) (by rw [updL_same]) (by simp) (by rw [updL_same]; simp)
  | sl _ _ _ _ off c hS0 hph ho hc =>
    have hbr := (hr.own id b hl).br hph
    obtain ⟨cur, c1, c2, c3⟩ := hbr.ex
    rw [Nat.zero_mul] at ho
    subst ho
    rw [Nat.sub_zero] at hc
    subst hc
    have hm : ∀ l i, S i → updL m n l i = m i := fun l i hi => updL_ne _ _ (fun e => hns (e ▸ hi))
    by_cases hroom : len + rows.length ≤ (m id).cap
    · have hmul : (len + rows.length) * b.size ≤ (m id).cap * b.size := Nat.mul_le_mul_right _ hroom
      rw [Nat.add_mul] at hmul
      have hfit : 0 + len * ei.size + news.length ≤ cur.size := by rw [hsrc.newsLen, c2]; rw [hbs] at hmul ⊢; omega
      have hrun := run_app (P := P) ho hxv (run_append_room_row (P := P) (w := w) (ty := o.type) hd hei (m id).blk 0 len (m id).cap _ rows.length news hsrc hroom b.ty cur c1 hfit)
      rw [hrun]
      rw [Nat.zero_add] at hfit ⊢
      have hfl : len * ei.size + news.length ≤ cur.toList.length := by simpa using hfit
      have hold : ∀ (k : Nat), k < len * ei.size → (cur.toList.take (len * ei.size) ++ news ++ cur.toList.drop (len * ei.size + news.length))[k]? = cur[k]? := fun k hk => by
        rw [splice_get _ _ _ _ hfl, if_pos hk, Array.getElem?_toList]
      have hnew : ∀ (k : Nat), k < news.length → (cur.toList.take (len * ei.size) ++ news ++ cur.toList.drop (len * ei.size + news.length))[len * ei.size + k]? = news[k]? := fun k hk => by
        rw [splice_get _ _ _ _ hfl, if_neg (by omega), if_pos (by omega), Nat.add_sub_cancel_left]
      have key := cat_rows (A := b.rows.take len) (B := rows) (K := K) (w := w) (m := m) (S := fun i => S i ∧ pl = false) (S' := S) (sz := ei.size) (c := fun k => (cur.toList.take (len * ei.size) ++ news ++ cur.toList.drop (len * ei.size + news.length))[k]?)
        (fun r row hr' => by
          rw [List.getElem?_take] at hr'
          split at hr'
          · rename_i hrl
            obtain ⟨k1, k2⟩ := c3 r row hr'
            rw [hbs] at k1 k2
            refine ⟨k1, fun j cv hj => ?_⟩
            obtain ⟨y, h1, h2, h3⟩ := k2 j cv hj
            have hjl : j < ei.size := by rw [← k1]; exact (List.getElem?_eq_some_iff.1 hj).1
            refine ⟨y, by rw [hold _ (flat_lt hrl hjl)]; exact h1, h2, ?_⟩
            cases pl with
            | false => exact h3.mono (fun _ h => h) (fun _ _ => rfl) (fun _ h => ⟨h.1, rfl⟩) (fun _ _ => rfl)
            | true => exact h3.plain (hbr.plv (hpl rfl).1 r row hr' j cv hj)
          · cases hr')
        (fun r row hr' => by
          obtain ⟨k1, k2⟩ := hnews r row hr'
          refine ⟨k1, fun j cv hj => ?_⟩
          obtain ⟨y, h1, h2⟩ := k2 j cv hj
          refine ⟨y, ?_, hsrc.one y (List.mem_of_getElem? h1), h2.forPl fun e => all_rows (hpl e).2 hr' hj⟩
          show (cur.toList.take (len * ei.size) ++ news ++ cur.toList.drop (len * ei.size + news.length))[(b.rows.take len).length * ei.size + (r * ei.size + j)]? = some y
          rw [hlA, hnew _ (List.getElem?_eq_some_iff.1 h1).1]; exact h1)
      have hrel := hr.write (w' := w.setRow (m id).blk (cur.toList.take (len * ei.size) ++ news ++ cur.toList.drop (len * ei.size + news.length)).toArray) hl hph (b' := ⟨e, ei.size, pl, b.rows.take len ++ rows⟩) _ hbt.symm hbs.symm rfl rfl rfl (by simp) (fun k hk => setRow_other _ _ _ _ hk) (setRow_heap _ _ _ _ _ _ c1)
        (by simp only [List.length_append, hlA]; omega) (fun hp r row hr' j cv hj => all_rows (hplA hp) hr' hj) (by rw [← c2]; simp; omega) (fun r row hr' => by
          obtain ⟨k1, k2⟩ := key r row hr'
          rw [hbs]
          exact ⟨k1, fun j cv hj => by obtain ⟨y, h1, h2, h3⟩ := k2 j cv hj; exact ⟨y, by simpa using h1, h2, h3⟩⟩)
      have hrel2 := (hrel.rename (n := n) (by rw [look_cons, if_pos rfl]) hns).sub (H' := (n, ⟨e, ei.size, pl, b.rows.take len ++ rows⟩) :: del H id) (fun i bi h => by
        rw [look_cons] at h ⊢
        split at h
        · rename_i he; rw [if_pos he]; exact h
        · rename_i he
          rw [if_neg he]
          obtain ⟨h1, h2⟩ := look_del h
          rw [look_del_ne _ h1, look_cons, if_neg (fun e => h1 e.symm)]
          exact h2)
      refine hnx _ _ _ K ⟨fun i hi => updL_ne _ _ (fun e => hi (by omega)), GK.refl _ _, hrel2, ?_, fun k hk => setRow_other _ _ _ _ (fun e => hbr.nk (e ▸ hk)), fun h => by cases h⟩
      have hbk : (updL m n (m id) n) = m id := updL_same _ _ _
      have : VR K (w.setRow (m id).blk (cur.toList.take (len * ei.size) ++ news ++ cur.toList.drop (len * ei.size + news.length)).toArray) (updL m n (m id)) (addS S n (n + 1)) (.sl n 0 (len + rows.length)) (.slice (some ⟨(updL m n (m id) n).blk, 0, none⟩) (len + rows.length) (m id).cap) :=
        .sl _ n 0 _ 0 _ (.inr ⟨Nat.le_refl _, Nat.lt_succ_self _⟩) (by rw [hbk]; exact hph) (by simp) (by rw [hbk]; simp)
      rw [hbk] at this
      exact this
    · have hold : ∀ (r : Nat) (row : List AV), (b.rows.take len)[r]? = some row → row.length = ei.size ∧ ∀ (j : Nat) (cv : AV), row[j]? = some cv → ∃ y, (cur.toList.take (len * ei.size))[r * ei.size + j]? = some y ∧ y.oneCell' = true ∧ VR K w m S cv y := fun r row hr' => by
        rw [List.getElem?_take] at hr'
        split at hr'
        · rename_i hrl
          obtain ⟨k1, k2⟩ := c3 r row hr'
          rw [hbs] at k1 k2
          refine ⟨k1, fun j cv hj => ?_⟩
          obtain ⟨y, h1, h2, h3⟩ := k2 j cv hj
          have hjl : j < ei.size := by rw [← k1]; exact (List.getElem?_eq_some_iff.1 hj).1
          refine ⟨y, ?_, h2, h3.mono (fun _ h => h) (fun _ _ => rfl) (fun _ h => h.1) (fun _ _ => rfl)⟩
          rw [List.getElem?_take, if_pos (flat_lt hrl hjl), Array.getElem?_toList]
          exact h1
        · cases hr'
      have hlc : len * ei.size ≤ cur.size := by
        have h1 : len ≤ (m id).cap := Nat.le_trans hlen hbr.cap
        have := Nat.mul_le_mul_right b.size h1
        rw [c2]; rw [hbs] at this ⊢; exact this
      have hol : (cur.toList.take (len * ei.size)).length = (b.rows.take len).length * ei.size := by rw [hlA, List.length_take]; simp; omega
      have hfc : (Builtin.firstCells ei.size len (.slice (some ⟨(m id).blk, 0, none⟩) len (m id).cap)).run P w.drew = .ok (cur.toList.take (len * ei.size)).toArray w.drew := by
        refine run_firstCells_some w.drew ei.size len ⟨(m id).blk, 0, none⟩ len (m id).cap _ (by rw [hol, hlA]) fun j v hj => ?_
        rw [List.getElem?_take] at hj
        split at hj
        · rw [Array.getElem?_toList] at hj
          rw [Go.WideShapes.add_plain, Nat.zero_add]
          rw [cell_of_row w.drew _ _ _ _ _ c1]
          exact hj
        · cases hj
      have hrun := run_app (P := P) ho hxv (run_append_grow_src (P := P) w t tx o.type e ei ezz hd hei hezz (some ⟨(m id).blk, 0, none⟩) len (m id).cap _ hfc _ rows.length news hsrc (by omega) (by omega) (hfit2 _ (by omega)))
      rw [hrun]
      have hge := grownCap_ge w (len + rows.length) (m id).cap e
      have hcm : grownCap w (len + rows.length) (m id).cap e ≤ maxLen := grownCap_le_maxLen w _ _ e (by simp only [maxLen]; omega)
      generalize grownCap w (len + rows.length) (m id).cap e = cap at hge hcm
      have hg := grown_row (w := drw w (w.drawn + 1)) (K := K) (m := m) (S := S) (es := ei.size) (A := b.rows.take len) (B := rows) (olds := cur.toList.take (len * ei.size)) (news := news) (z := ezz.cells) (extra := cap - (len + rows.length)) (pl := pl) hol
        (fun r row hr' => ⟨(hold r row hr').1, fun j cv hj => by obtain ⟨y, h1, h2, h3⟩ := (hold r row hr').2 j cv hj; exact ⟨y, h1, h2, h3.mono (fun _ h => h) (fun _ _ => rfl) (fun _ h => h) (fun _ _ => rfl)⟩⟩) hnewsM hsrc.one hplA
      have hrel := ((hr.sub (H' := del H id) (fun i c h => (look_del h).2)).drw (w.drawn + 1)).new hns ⟨e, ei.size, pl, b.rows.take len ++ rows⟩ cap ((cur.toList.take (len * ei.size) ++ news).toArray ++ Builtin.zeroCells ezz.cells (cap - (len + rows.length))) (by simp only [List.length_append, hlA]; exact hge) hcm (fun hp r row hr' j cv hj => all_rows (hplA hp) hr' hj)
        (by simp only [Array.size_append, List.size_toArray, List.length_append, zeroCells_size, hsrc.newsLen, hzs, hol, hlA]; rw [← Nat.add_mul, ← Nat.add_mul]; congr 1; omega) hg
      refine hnx _ _ _ K ⟨fun i hi => updL_ne _ _ (fun e => hi (by omega)), GK.refl _ _, hrel, ?_, fun k hk => Below.heap_alloc _ _ _ (hr.kb k hk), fun h => by cases h⟩
      have hbk : (updL m n ⟨(drw w (w.drawn + 1)).heap.size, cap, ei.size, false⟩ n).blk = w.heap.size := by rw [updL_same]; rfl
      show VR K _ _ _ _ (.slice (some ⟨w.heap.size, 0, none⟩) (len + rows.length) cap)
      rw [← hbk]
      exact .sl _ n 0 _ 0 _ (.inr ⟨Nat.le_refl _, Nat.lt_succ_self _⟩) (by rw [updL_same]) (by simp) (by rw [updL_same]; simp)
def rowsOf (es : Nat) : Nat → List AV → List (List AV)
  | 0, _ => []
  | len + 1, cs => cs.take es :: rowsOf es len (cs.drop es)
theorem rowsOf_len (es : Nat) : ∀ (len : Nat) (cs : List AV), (rowsOf es len cs).length = len
  | 0, _ => rfl
  | len + 1, cs => by simp [rowsOf, rowsOf_len es len]
theorem rowsOf_get {es : Nat} : ∀ {len : Nat} {cs : List AV} {r : Nat} {row : List AV}, (rowsOf es len cs)[r]? = some row → row = (cs.drop (r * es)).take es ∧ r < len
  | 0, cs, r, row, h => by simp [rowsOf] at h
  | len + 1, cs, 0, row, h => by simp [rowsOf] at h; subst h; simp
  | len + 1, cs, r + 1, row, h => by
    simp only [rowsOf, List.getElem?_cons_succ] at h
    obtain ⟨h1, h2⟩ := rowsOf_get h
    rw [List.drop_drop] at h1
    exact ⟨by rw [h1, Nat.add_mul, Nat.one_mul, Nat.add_comm], by omega⟩
def zeros (es : Nat) (ez : List Value) (len : Nat) : List AV := (List.range (len * es)).map fun k => AV.v (ez.getD (k % es) undef)
theorem fillA_len (place : Nat → Option (Nat × Nat)) : ∀ (ps : List (Nat × AV)) (cs cs' : List AV), fillA place cs ps = some cs' → cs'.length = cs.length
  | [], cs, cs', h => by simp only [fillA, Option.some.injEq] at h; rw [h]
  | (i, v) :: ps, cs, cs', h => by
    simp only [fillA] at h
    cases hp : place i with
    | none => simp [hp] at h
    | some os =>
      obtain ⟨off, size⟩ := os
      simp only [hp] at h
      split at h
      · rename_i hc
        simp only [Bool.and_eq_true, Nat.ble_eq] at hc
        have e := Nat.eq_of_beq_eq_true hc.1
        rw [fillA_len place ps _ _ h, splice_len _ _ _ (by rw [e]; exact hc.2)]
      · cases h
theorem s_buildSlice {t e : TypeId} {ti : TI} {es eb : Nat} {ez : List Value} {len : Nat} {parts : Array (Nat × Operand)} {ps : List (Nat × AV)} {cs : List AV} (ho : o.op = .buildSlice t len parts) (hty : tiOf P t = some ti) (hk : ti.k = .slice e es eb ez)
    (hz : ez.length = es) (h0 : 0 < len * es) (hlen : len * es ≤ 10000) (hp : parts.toList.mapM (fun p => (evalA T p.2).map fun v => (p.1, v)) = some ps)
    (hc : fillA (fun i => some (i * es, es)) (zeros es ez len) ps = some cs) (h1 : cs.all AV.one = true) :
    Step P o N T H n (.sl n 0 len) ((n, ⟨e, es, cs.all isV, rowsOf es len cs⟩) :: H) (n + 1) true := by
  obtain ⟨i, d, z, hi, hd, hzz, hsz, hagg, hby, hzl, htk⟩ := tiOf_spec hty
  rw [hk] at htk
  obtain ⟨ei, ezz, rfl, hei, hezz, hes, heb, hezl⟩ := tk_slice htk
  subst hes
  have hzs : ezz.cells.size = ei.size := by rw [← hz, ← hezl]; simp
  have hcv : ∀ {r : Nat} {row : List AV}, (rowsOf ei.size len cs)[r]? = some row → ∀ {j : Nat} {cv : AV}, row[j]? = some cv → j < ei.size ∧ r < len ∧ cs[r * ei.size + j]? = some cv := fun {r row} hr {j cv} hj => by
    obtain ⟨e1, e2⟩ := rowsOf_get hr
    subst e1
    rw [List.getElem?_take] at hj
    split at hj
    · rw [List.getElem?_drop] at hj; exact ⟨by assumption, e2, hj⟩
    · cases hj
  refine Step.new ⟨e, ei.size, cs.all isV, rowsOf ei.size len cs⟩ (fun hall r row hr j cv hj => List.all_eq_true.1 hall cv (List.mem_of_getElem? (hcv hr hj).2.2)) fun Old wi K m S a w hr ht => ?_
  obtain ⟨e1, e2⟩ := evals_parts ht _ _ hp
  have hzl2 : ((Array.range (len * ei.size)).map (fun k => ezz.cells[k % ezz.cells.size]!)).toList = (List.range (len * ei.size)).map fun k => ez.getD (k % ei.size) undef := by
    simp only [Array.toList_map, Array.toList_range]
    refine List.map_congr_left fun k hk => ?_
    have hpos : 0 < ei.size := by rcases Nat.eq_zero_or_pos ei.size with e | e; · rw [e] at h0; simp at h0
                                  · exact e
    have hlt : k % ei.size < ei.size := Nat.mod_lt _ hpos
    rw [hzs, getElem!_pos ezz.cells _ (by omega), List.getD_eq_getElem?_getD, ← hezl]
    rw [List.getElem?_eq_getElem (by simp; omega)]
    simp
  have hzv : VRl K w m S (zeros ei.size ez len) ((Array.range (len * ei.size)).map (fun k => ezz.cells[k % ezz.cells.size]!)).toList := by
    rw [hzl2]
    have : zeros ei.size ez len = ((List.range (len * ei.size)).map fun k => ez.getD (k % ei.size) undef).map .v := by simp [zeros]
    rw [this]
    exact VRl.map_v _
  obtain ⟨xs, hx, hv⟩ := fill_vr _ ps (parts.toList.map fun p => (p.1, a.eval p.2)) _ cs _ hzv hc e1 e2
  have hparts : (parts.map fun (p : Nat × Operand) => (p.1, a.eval p.2)).toList = parts.toList.map fun p => (p.1, a.eval p.2) := by simp
  have hcs : cs.length = len * ei.size := by rw [fillA_len _ _ _ _ hc]; simp [zeros]
  have hlen1 : len ≤ len * ei.size := by
    rcases Nat.eq_zero_or_pos ei.size with e | e
    · rw [e] at h0; simp at h0
    · exact Nat.le_mul_of_pos_right _ e
  refine ⟨.slice (some ⟨w.heap.size, 0, none⟩) len len, w.drawn, len, xs, ?_, by simp [rowsOf_len], by simp only [maxLen]; omega, by have := hv.1; simp at this; show xs.size = len * ei.size; omega, ?_, ?_⟩
  · have hrun := run_buildSlice (P := P) w t e len (parts.map fun (p : Nat × Operand) => (p.1, a.eval p.2)) xs ei ezz hd hei hezz (by omega) (by omega) (by rw [hparts]; exact hx)
    simp only [execOp, ho]
    show ((Instr.buildSlice t len (parts.map fun (p : Nat × Operand) => (p.1, a.eval p.2)) >>= fun v => pure (Next.value v) : Sem Next)).run P w = _
    rw [Sem.run_bind, hrun]
    rfl
  · intro r row hr'
    have hrow := rowsOf_get hr'
    refine ⟨?_, fun j cv hj => ?_⟩
    · rw [hrow.1, List.length_take, List.length_drop, hcs]
      have : (r + 1) * ei.size ≤ len * ei.size := Nat.mul_le_mul_right _ hrow.2
      rw [Nat.add_mul] at this
      show min ei.size (len * ei.size - r * ei.size) = ei.size
      omega
    · obtain ⟨g1, g2, g3⟩ := hcv hr' hj
      obtain ⟨y, hy, hvy⟩ := hv.get g3
      refine ⟨y, by simpa using hy, hvy.one (List.all_eq_true.1 h1 cv (List.mem_of_getElem? g3)), hvy.forPl fun hall => List.all_eq_true.1 hall cv (List.mem_of_getElem? g3)⟩
  · intro m' w' hm
    have hbk : (m' n).blk = w.heap.size := by rw [hm]
    rw [← hbk]
    exact .sl _ n 0 _ 0 _ (.inr ⟨Nat.le_refl _, Nat.lt_succ_self _⟩) (by rw [hm]) (by simp) (by rw [hm]; simp)
theorem s_build0 {t e : TypeId} {ti : TI} {es eb : Nat} {ez : List Value} (ho : o.op = .buildSlice t 0 #[]) (hty : tiOf P t = some ti) (hk : ti.k = .slice e es eb ez) :
    Step P o N T H n (.sl n 0 0) ((n, ⟨e, es, true, []⟩) :: H) (n + 1) true := by
  obtain ⟨i, d, z, hi, hd, hzz, hsz, hagg, hby, hzl, htk⟩ := tiOf_spec hty
  rw [hk] at htk
  obtain ⟨ei, ezz, rfl, hei, hezz, hes, heb, hezl⟩ := tk_slice htk
  refine Step.new ⟨e, es, true, []⟩ (fun _ r row hr j cv hj => by simp at hr) fun Old wi K m S a w hr ht => ?_
  refine ⟨.slice (some ⟨w.heap.size, 0, none⟩) 0 0, w.drawn, 0, #[], ?_, by simp, by simp [maxLen], by simp, by simp, ?_⟩
  · simp [execOp, ho, Instr.buildSlice, run_underlying hd, run_sizeOf w hei, Program.cellsOf, hei, Instr.fill, newRow, Result.andThen]
    congr 2
    exact Array.ext' (by simp)
  · intro m' w' hm
    have hbk : (m' n).blk = w.heap.size := by rw [hm]
    rw [← hbk]
    exact .sl _ n 0 _ 0 _ (.inr ⟨Nat.le_refl _, Nat.lt_succ_self _⟩) (by rw [hm]) (by simp) (by simp [hm])
end
end Go.Proofs.Ytljpgbgokjiamaa.Aw

namespace Go.Proofs.Ytljpgbgokjiamaa.Aw
open Go Go.RowKit
mutual
def renA (ρ : Nat → Nat) : AV → AV
  | .ptr id r c => .ptr (ρ id) r c
  | .sl id r l => .sl (ρ id) r l
  | .sx id r l c => .sx (ρ id) r l c
  | .agg cs => .agg (renL ρ cs)
  | .tup cs => .tup (renL ρ cs)
  | .fn f cs => .fn f (renL ρ cs)
  | .v x => .v x
  | .dsl s rows => .dsl s rows
  | .dptr cs => .dptr cs
  | .om id D => .om (ρ id) D
  | .emp => .emp
def renL (ρ : Nat → Nat) : List AV → List AV
  | [] => []
  | x :: xs => renA ρ x :: renL ρ xs
end
mutual
def idsOk (n : Nat) : AV → Bool
  | .ptr id _ _ => Nat.blt id n
  | .sl id _ _ => Nat.blt id n
  | .sx id _ _ _ => Nat.blt id n
  | .om id _ => Nat.blt id n
  | .agg cs => idsOkL n cs
  | .tup cs => idsOkL n cs
  | .fn _ cs => idsOkL n cs
  | _ => true
def idsOkL (n : Nat) : List AV → Bool
  | [] => true
  | x :: xs => idsOk n x && idsOkL n xs
end
theorem renL_get (ρ : Nat → Nat) : ∀ (l : List AV) (j : Nat), (renL ρ l)[j]? = (l[j]?).map (renA ρ)
  | [], j => by simp [renL]
  | x :: l, 0 => by simp [renL]
  | x :: l, j + 1 => by simp [renL, renL_get ρ l j]
theorem renL_len (ρ : Nat → Nat) : ∀ (l : List AV), (renL ρ l).length = l.length
  | [] => by simp [renL]
  | x :: l => by simp [renL, renL_len ρ l]
theorem idsOkL_get {n : Nat} : ∀ {l : List AV} {j : Nat} {v : AV}, idsOkL n l = true → l[j]? = some v → idsOk n v = true
  | [], j, v, _, h => by simp at h
  | x :: l, 0, v, h, h2 => by simp [idsOkL] at h; simp at h2; subst h2; exact h.1
  | x :: l, j + 1, v, h, h2 => by simp [idsOkL] at h; simp at h2; exact idsOkL_get h.2 h2
section
variable {K : Nat → Prop} {w : World} {m : Nat → Loc} {S : Nat → Prop}
theorem VR.ren {u : AV} {x : Value} (h : VR K w m S u x) (ρ : Nat → Nat) (n' : Nat) : ∀ v, renA ρ v = u → idsOk n' v = true → VR K w (fun i => m (ρ i)) (fun i => i < n') v x := by
  have none : ∀ {v : AV} {x : Value}, VR K w m NoS v x → VR K w (fun i => m (ρ i)) NoS v x := fun h => h.mono (fun _ h => h) (fun _ _ => rfl) (fun _ h => h) (fun _ h => h.elim)
  induction h with
  | v S x => intro v hv hi; cases v <;> simp only [renA] at hv <;> cases hv; exact .v _ _
  | dsl0 S size a c => intro v hv hi; cases v <;> simp only [renA] at hv <;> cases hv; exact .dsl0 _ _ _ _
  | dsl S size rows n b o c xs hn hc hk hl hx hv ih =>
    intro v hvv hi; cases v <;> simp only [renA] at hvv <;> cases hvv
    exact .dsl _ _ _ n b o c xs hn hc hk hl hx (fun r row j cv h1 h2 => none (hv r row j cv h1 h2))
  | dptr S cells b o xs hk hx hv ih =>
    intro v hvv hi; cases v <;> simp only [renA] at hvv <;> cases hvv
    exact .dptr _ _ b o xs hk hx (fun j cv h1 => none (hv j cv h1))
  | om S id D es c b hs hp hq hb hk ho hD =>
    intro v hvv hi; cases v <;> simp only [renA] at hvv <;> cases hvv
    exact .om (m := fun i => m (ρ i)) _ _ _ es c b (by simpa [idsOk, Nat.blt_eq] using hi) hp hq hb hk ho hD
  | emp S a => intro v hv hi; cases v <;> simp only [renA] at hv <;> cases hv; exact .emp _ _
  | ptr S id row col o hs ho =>
    intro v hvv hi; cases v <;> simp only [renA] at hvv <;> cases hvv
    exact .ptr (m := fun i => m (ρ i)) _ _ _ _ o (by simpa [idsOk, Nat.blt_eq] using hi) ho
  | sl S id row len o c hs hp ho hc =>
    intro v hvv hi; cases v <;> simp only [renA] at hvv <;> cases hvv
    exact .sl (m := fun i => m (ρ i)) _ _ _ _ o c (by simpa [idsOk, Nat.blt_eq] using hi) hp ho hc
  | sl0 S id row ad hs =>
    intro v hvv hi; cases v <;> simp only [renA] at hvv <;> cases hvv
    exact .sl0 (m := fun i => m (ρ i)) _ _ _ _ (by simpa [idsOk, Nat.blt_eq] using hi)
  | sx S id row len cap o c hs hp ho hcap hc =>
    intro v hvv hi; cases v <;> simp only [renA] at hvv <;> cases hvv
    exact .sx (m := fun i => m (ρ i)) _ _ _ _ _ o c (by simpa [idsOk, Nat.blt_eq] using hi) hp ho hcap hc
  | agg S cs xs hl hv ih =>
    intro v hvv hi; cases v <;> simp only [renA] at hvv <;> cases hvv
    rename_i cs
    simp only [idsOk] at hi
    refine .agg _ _ _ (by rw [hl, renL_len]) fun j cv y h1 h2 => ih j (renA ρ cv) y (by rw [renL_get, h1]; rfl) h2 cv rfl (idsOkL_get hi h1)
  | tup S cs xs hl hv ih =>
    intro v hvv hi; cases v <;> simp only [renA] at hvv <;> cases hvv
    rename_i cs
    simp only [idsOk] at hi
    refine .tup _ _ _ (by rw [hl, renL_len]) fun j cv y h1 h2 => ih j (renA ρ cv) y (by rw [renL_get, h1]; rfl) h2 cv rfl (idsOkL_get hi h1)
  | fn S f cs xs hl hv ih =>
    intro v hvv hi; cases v <;> simp only [renA] at hvv <;> cases hvv
    rename_i cs
    simp only [idsOk] at hi
    refine .fn _ _ _ _ (by rw [hl, renL_len]) fun j cv y h1 h2 => ih j (renA ρ cv) y (by rw [renL_get, h1]; rfl) h2 cv rfl (idsOkL_get hi h1)
end
def renB (ρ : Nat → Nat) (b : Blk) : Blk := { b with rows := match b.pl with
  | true => b.rows
  | false => b.rows.map (renL ρ) }
def idsOkB (n : Nat) (b : Blk) : Bool := match b.pl with
  | true => true
  | false => b.rows.all (idsOkL n)
def subT (T : Tp) (ρ : Nat → Nat) (n' : Nat) : Tp → Prop
  | [] => True
  | (t, v) :: T' => (look T t = some (renA ρ v) ∧ idsOk n' v = true) ∧ subT T ρ n' T'
def subH (H : Hp) (ρ : Nat → Nat) (n' : Nat) : Hp → Prop
  | [] => True
  | (i, b) :: H' => (look H (ρ i) = some (renB ρ b) ∧ idsOkB n' b = true ∧ Nat.blt i n' = true) ∧ subH H ρ n' H'
def injB (ρ : Nat → Nat) : List Nat → Bool
  | [] => true
  | i :: l => l.all (fun j => Nat.beq i j || !Nat.beq (ρ i) (ρ j)) && injB ρ l
def PinOk (g : Nat) (ρ : Nat → Nat) (n' : Nat) : Prop := ∀ i, i < g → ρ i = i ∧ i < n'
theorem pin_0 {ρ : Nat → Nat} {n' : Nat} : PinOk 0 ρ n' := fun _ h => absurd h (Nat.not_lt_zero _)
structure Sub (g : Nat) (T : Tp) (H : Hp) (ρ : Nat → Nat) (T' : Tp) (H' : Hp) (n' : Nat) : Prop where
  t : subT T ρ n' T'
  h : subH H ρ n' H'
  i : injB ρ (H'.map (·.1)) = true
  p : PinOk g ρ n'
theorem subT_get {T : Tp} {ρ : Nat → Nat} {n' : Nat} : ∀ {T' : Tp} {t : Nat} {v : AV}, subT T ρ n' T' → look T' t = some v → look T t = some (renA ρ v) ∧ idsOk n' v = true
  | [], t, v, _, h => by simp [look_nil] at h
  | (u, x) :: T', t, v, hs, h => by
    rw [look_cons] at h
    split at h
    · rename_i he; subst he; simp only [Option.some.injEq] at h; subst h; exact hs.1
    · exact subT_get hs.2 h
theorem subH_get {H : Hp} {ρ : Nat → Nat} {n' : Nat} : ∀ {H' : Hp} {i : Nat} {b : Blk}, subH H ρ n' H' → look H' i = some b → look H (ρ i) = some (renB ρ b) ∧ idsOkB n' b = true ∧ i < n'
  | [], i, b, _, h => by simp [look_nil] at h
  | (u, x) :: H', i, b, hs, h => by
    rw [look_cons] at h
    split at h
    · rename_i he; subst he; simp only [Option.some.injEq] at h; subst h; exact ⟨hs.1.1, hs.1.2.1, by simpa [Nat.blt_eq] using hs.1.2.2⟩
    · exact subH_get hs.2 h
theorem look_mem {β : Type} : ∀ {l : List (Nat × β)} {i : Nat} {b : β}, look l i = some b → i ∈ l.map (·.1)
  | [], i, b, h => by simp [look_nil] at h
  | (u, x) :: l, i, b, h => by
    rw [look_cons] at h
    split at h
    · rename_i he; subst he; simp
    · exact List.mem_cons_of_mem _ (look_mem h)
theorem injB_spec {ρ : Nat → Nat} : ∀ {l : List Nat}, injB ρ l = true → ∀ i j, i ∈ l → j ∈ l → i ≠ j → ρ i ≠ ρ j
  | [], _, i, j, hi, _, _ => by cases hi
  | k :: l, h, i, j, hi, hj, hne => by
    simp only [injB, Bool.and_eq_true, List.all_eq_true] at h
    have key : ∀ j, j ∈ l → k ≠ j → ρ k ≠ ρ j := fun j hj hne he => by
      have := h.1 j hj
      have h1 : Nat.beq k j = false := by
        cases hb : Nat.beq k j
        · rfl
        · exact absurd (Nat.eq_of_beq_eq_true hb) hne
      rw [h1, he, Nat.beq_refl] at this
      simp at this
    rcases List.mem_cons.1 hi with e1 | e1
    · rcases List.mem_cons.1 hj with e2 | e2
      · exact absurd (e1.trans e2.symm) hne
      · rw [e1] at hne ⊢; exact key j e2 hne
    · rcases List.mem_cons.1 hj with e2 | e2
      · rw [e2] at hne ⊢; exact fun he => key i e1 (fun e => hne e.symm) he.symm
      · exact injB_spec h.2 i j e1 e2 hne
section
variable {P : Program} {Old : Nat → Prop} {wi : WI Old} {K : Nat → Prop} {m : Nat → Loc} {H H' : Hp} {w : World} {N n n' g : Nat} {T T' : Tp} {a : Act} {ρ : Nat → Nat} {Q : Exit → Tp → Hp → Nat → Prop}
theorem weak (hp : ∀ i l, wi.pin i = some l → i < g) (hr : Rel Old wi K m (fun i => i < n) H w) (ht : TRel K w m (fun i => i < n) N T a) (hs : Sub g T H ρ T' H' n') :
    Rel Old wi K (fun i => m (ρ i)) (fun i => i < n') H' w ∧ TRel K w (fun i => m (ρ i)) (fun i => i < n') N T' a := by
  refine ⟨{ os := hr.os, tape := hr.tape, output := hr.output, size := hr.size, old := hr.old, olt := hr.olt, oown := fun i b hl => hr.oown _ _ (subH_get hs.h hl).1, om := fun i b hl hp hq => hr.om (ρ i) (renB ρ b) (subH_get hs.h hl).1 hp hq, kb := hr.kb, pin := fun i l hi => by rw [(hs.p i (hp i l hi)).1]; exact hr.pin i l hi, pinS := fun i l hi => (hs.p i (hp i l hi)).2, inS := fun i b hl => (subH_get hs.h hl).2.2, own := fun i b hl => ?_, inj := fun i j bi bj hi hj hne => hr.inj _ _ _ _ (subH_get hs.h hi).1 (subH_get hs.h hj).1 (injB_spec hs.i i j (look_mem hi) (look_mem hj) hne) }, ht.dn, ht.sz, fun t v hl => ?_⟩
  · obtain ⟨h1, h2, h3⟩ := subH_get hs.h hl
    rcases hr.own _ _ h1 with ⟨p1, p2⟩ | ⟨hph, hb⟩
    · refine .inl ⟨p1, ?_⟩
      cases hp : b.pl with
      | true => have e : renB ρ b = b := by cases b; simp only at hp; subst hp; rfl
                rw [e] at p2; exact p2
      | false => have e : renB ρ b = { b with rows := b.rows.map (renL ρ) } := by cases b; simp only at hp; subst hp; rfl
                 rw [e] at p2; simpa using p2
    refine .inr ⟨hph, ?_⟩
    obtain ⟨cur, c1, c2, c3⟩ := hb.ex
    cases hp : b.pl with
    | true =>
      have e : renB ρ b = b := by cases b; simp only at hp; subst hp; rfl
      rw [e] at hb c1 c2 c3
      refine ⟨hb.nk, hb.sz, hb.cap, hb.capm, hb.plv, cur, c1, c2, fun r row hrow => ⟨(c3 r row hrow).1, fun j cv hj => ?_⟩⟩
      obtain ⟨x, hx, hone, hv⟩ := (c3 r row hrow).2 j cv hj
      exact ⟨x, hx, hone, hv.mono (fun _ h => h) (fun _ _ => rfl) (fun i hi => absurd hi.2 (by simp [hp])) (fun i hi => absurd hi.2 (by simp [hp]))⟩
    | false =>
      have e : renB ρ b = { b with rows := b.rows.map (renL ρ) } := by cases b; simp only at hp; subst hp; rfl
      rw [e] at hb c1 c2 c3
      have hcap := hb.cap
      simp only [List.length_map] at hcap
      refine ⟨hb.nk, hb.sz, hcap, hb.capm, fun hc => absurd hc (by simp [hp]), cur, c1, c2, fun r row hrow => ?_⟩
      obtain ⟨g1, g2⟩ := c3 r (renL ρ row) (by simp [hrow])
      rw [renL_len] at g1
      refine ⟨g1, fun j cv hj => ?_⟩
      obtain ⟨x, hx, hone, hv⟩ := g2 j (renA ρ cv) (by rw [renL_get, hj]; rfl)
      refine ⟨x, hx, hone, (hv.ren ρ n' cv rfl ?_).mono (fun _ h => h) (fun _ _ => rfl) (fun i hi => ⟨hi, hp⟩) (fun _ _ => rfl)⟩
      unfold idsOkB at h2
      rw [hp] at h2
      exact idsOkL_get (List.all_eq_true.1 h2 row (List.mem_of_getElem? hrow)) hj
  · obtain ⟨h1, h2⟩ := subT_get hs.t hl
    exact (ht.tm t _ h1).ren ρ n' v rfl h2
theorem aw_weak {c : Code} (hs : Sub g T H ρ T' H' n') (h : AW P N g c Q T' H' n') : AW P N g c Q T H n := fun Old wi K _ a w hp hr ht =>
  let ⟨h1, h2⟩ := weak hp hr ht hs
  h Old wi K _ a w hp h1 h2
theorem aw_nil {c : Code} {t : Nat} (ty sz : Nat) (h : look T t = some (.v (.slice none 0 0))) (hc : AW P N g c Q ((t, .sl n 0 0) :: T) ((n, ⟨ty, sz, true, []⟩) :: H) (n + 1)) : AW P N g c Q T H n := fun Old wi K m a w hp hr ht => by
  have hns : ¬ (fun i => i < n) n := Nat.lt_irrefl _
  have e : addS (fun i => i < n) n (n + 1) = fun i => i < n + 1 := addS_lt (Nat.le_succ _)
  have hr' := hr.phantom hns ty sz true
  rw [e] at hr'
  refine hc Old wi K _ a w hp hr' ⟨ht.dn, ht.sz, fun u av hl => ?_⟩
  rw [look_cons] at hl
  split at hl
  · rename_i hu
    subst hu
    simp only [Option.some.injEq] at hl
    subst hl
    have hv := ht.tm t _ h
    generalize a.tmps.getD t undef = x at hv
    cases hv
    exact .sl0 _ _ _ _ (Nat.lt_succ_self n)
  · exact (ht.tm u av hl).mono (fun _ h => h) (fun _ _ => rfl) (fun i hi => Nat.lt_succ_of_lt hi) (fun i hi => updL_ne _ _ (Nat.ne_of_lt hi))
theorem aw_loop {ι : Type} {c : Code} (st : ι → Tp × Hp × Nat) (Inv : ι → Prop) (μ : ι → Nat) (i₀ : ι) (h₀ : Inv i₀) (hs : Sub g T H ρ (st i₀).1 (st i₀).2.1 (st i₀).2.2)
    (round : ∀ i, Inv i → AW P N g c (Thn (fun T H _ => ∃ j ρ, Inv j ∧ μ j < μ i ∧ Sub g T H ρ (st j).1 (st j).2.1 (st j).2.2) Q) (st i).1 (st i).2.1 (st i).2.2) : AW P N g (.loop c) Q T H n := by
  intro Old wi K m a w hp hr ht rr
  obtain ⟨h1, h2⟩ := weak hp hr ht hs
  refine wp_loop_ix (fun k a w => ∃ i m K', GK Old K K' ∧ Inv i ∧ μ i = k ∧ Rel Old wi K' m (fun x => x < (st i).2.2) (st i).2.1 w ∧ TRel K' w m (fun x => x < (st i).2.2) N (st i).1 a) (μ i₀) ⟨i₀, _, K, GK.refl _ _, h₀, rfl, h1, h2⟩ ?_
  rintro k a w ⟨i, m, K1, g1, hi, rfl, hr, ht⟩
  refine Go.wpIn_mono (round i hi Old wi K1 m a w hp hr ht rr) fun e a' w' ⟨T', H', n', m', K2, g2, q, r, t⟩ => ?_
  cases e with
  | normal =>
    obtain ⟨j, ρ, hj, hlt, hsub⟩ := q
    obtain ⟨e1, e2⟩ := weak hp r t hsub
    exact ⟨μ j, hlt, j, _, K2, g1.trans g2, hj, rfl, e1, e2⟩
  | exit id => exact ⟨T', H', n', m', K2, g1.trans g2, q, r, t⟩
  | goto l => exact ⟨T', H', n', m', K2, g1.trans g2, q, r, t⟩
  | ret => exact ⟨T', H', n', m', K2, g1.trans g2, q, r, t⟩
  | panic ch => exact ⟨T', H', n', m', K2, g1.trans g2, q, r, t⟩
  | outgrown => exact ⟨T', H', n', m', K2, g1.trans g2, q, r, t⟩
end
end Go.Proofs.Ytljpgbgokjiamaa.Aw

namespace Go.Proofs.Ytljpgbgokjiamaa.Aw
open Go Go.RowKit
mutual
def noDeep : AV → Bool
  | .dptr _ => false
  | .om _ _ => false
  | .dsl _ rows => rows.isEmpty
  | .agg cs => noDeepL cs
  | .tup cs => noDeepL cs
  | .fn _ cs => noDeepL cs
  | _ => true
def noDeepL : List AV → Bool
  | [] => true
  | x :: xs => noDeep x && noDeepL xs
end
theorem noDeepL_get : ∀ {l : List AV} {j : Nat} {v : AV}, noDeepL l = true → l[j]? = some v → noDeep v = true
  | [], j, v, _, h => by simp at h
  | x :: l, 0, v, h, h2 => by simp [noDeepL] at h; simp at h2; subst h2; exact h.1
  | x :: l, j + 1, v, h, h2 => by simp [noDeepL] at h; simp at h2; exact noDeepL_get h.2 h2
def noDeepB (b : Blk) : Bool := match b.pl with
  | true => true
  | false => b.rows.all noDeepL
section
variable {P : Program} {K : Nat → Prop} {w : World} {m m2 : Nat → Loc} {S S2 : Nat → Prop}
theorem VR.ren2 {u : AV} {x : Value} (h : VR K w m S u x) (ρ σ : Nat → Nat) (k : Nat) (hm : ∀ i, i < k → m2 (σ i) = m (ρ i) ∧ S2 (σ i)) :
    ∀ v, renA ρ v = u → idsOk k v = true → noDeep v = true → VR NoK w m2 S2 (renA σ v) x := by
  induction h generalizing S2 with
  | v S x => intro v hv hi hd; cases v <;> simp only [renA] at hv <;> cases hv; exact .v _ _
  | dsl0 S size a c => intro v hv hi hd; cases v <;> simp only [renA] at hv <;> cases hv; exact .dsl0 _ _ _ _
  | dsl S size rows n b o c xs hn hc hk hl hx hv ih =>
    intro v hvv hi hd; cases v <;> simp only [renA] at hvv <;> cases hvv
    simp only [noDeep, List.isEmpty_iff] at hd
    subst hd
    simp only [renA]
    have : n = 0 := by simpa using hn
    subst this
    exact .dsl0 _ _ _ _
  | dptr S cells b o xs hk hx hv ih =>
    intro v hvv hi hd; cases v <;> simp only [renA] at hvv <;> cases hvv
    simp [noDeep] at hd
  | om S id D es c b hs hp hq hb hk ho hD =>
    intro v hvv hi hd; cases v <;> simp only [renA] at hvv <;> cases hvv
    simp [noDeep] at hd
  | emp S a => intro v hv hi hd; cases v <;> simp only [renA] at hv <;> cases hv; exact .emp _ _
  | ptr S id row col o hs ho =>
    intro v hvv hi hd; cases v <;> simp only [renA] at hvv <;> cases hvv
    have hlt := hm _ (by simpa [idsOk, Nat.blt_eq] using hi)
    simp only [renA]
    rw [← hlt.1]
    exact .ptr _ _ _ _ o hlt.2 (by rw [hlt.1]; exact ho)
  | sl0 S id row ad hs =>
    intro v hvv hi hd; cases v <;> simp only [renA] at hvv <;> cases hvv
    have hlt := hm _ (by simpa [idsOk, Nat.blt_eq] using hi)
    simp only [renA]
    exact .sl0 _ _ _ _ hlt.2
  | sx S id row len cap o c hs hp ho hcap hc =>
    intro v hvv hi hd; cases v <;> simp only [renA] at hvv <;> cases hvv
    have hlt := hm _ (by simpa [idsOk, Nat.blt_eq] using hi)
    simp only [renA]
    rw [← hlt.1]
    exact .sx _ _ _ _ _ o c hlt.2 (by rw [hlt.1]; exact hp) (by rw [hlt.1]; exact ho) (by rw [hlt.1]; exact hcap) hc
  | sl S id row len o c hs hp ho hc =>
    intro v hvv hi hd; cases v <;> simp only [renA] at hvv <;> cases hvv
    have hlt := hm _ (by simpa [idsOk, Nat.blt_eq] using hi)
    simp only [renA]
    rw [← hlt.1]
    exact .sl _ _ _ _ o c hlt.2 (by rw [hlt.1]; exact hp) (by rw [hlt.1]; exact ho) (by rw [hlt.1]; exact hc)
  | agg S cs xs hl hv ih =>
    intro v hvv hi hd; cases v <;> simp only [renA] at hvv <;> cases hvv
    rename_i cs
    simp only [idsOk] at hi
    simp only [noDeep] at hd
    simp only [renA]
    refine .agg _ _ _ (by rw [hl, renL_len, renL_len]) fun j cv y h1 h2 => ?_
    rw [renL_get] at h1
    cases hj : cs[j]? with
    | none => simp [hj] at h1
    | some c0 =>
      simp only [hj, Option.map_some, Option.some.injEq] at h1
      subst h1
      exact ih j (renA ρ c0) y (by rw [renL_get, hj]; rfl) h2 (hm := hm) c0 rfl (idsOkL_get hi hj) (noDeepL_get hd hj)
  | tup S cs xs hl hv ih =>
    intro v hvv hi hd; cases v <;> simp only [renA] at hvv <;> cases hvv
    rename_i cs
    simp only [idsOk] at hi
    simp only [noDeep] at hd
    simp only [renA]
    refine .tup _ _ _ (by rw [hl, renL_len, renL_len]) fun j cv y h1 h2 => ?_
    rw [renL_get] at h1
    cases hj : cs[j]? with
    | none => simp [hj] at h1
    | some c0 =>
      simp only [hj, Option.map_some, Option.some.injEq] at h1
      subst h1
      exact ih j (renA ρ c0) y (by rw [renL_get, hj]; rfl) h2 (hm := hm) c0 rfl (idsOkL_get hi hj) (noDeepL_get hd hj)
  | fn S f cs xs hl hv ih =>
    intro v hvv hi hd; cases v <;> simp only [renA] at hvv <;> cases hvv
    rename_i cs
    simp only [idsOk] at hi
    simp only [noDeep] at hd
    simp only [renA]
    refine .fn _ _ _ _ (by rw [hl, renL_len, renL_len]) fun j cv y h1 h2 => ?_
    rw [renL_get] at h1
    cases hj : cs[j]? with
    | none => simp [hj] at h1
    | some c0 =>
      simp only [hj, Option.map_some, Option.some.injEq] at h1
      subst h1
      exact ih j (renA ρ c0) y (by rw [renL_get, hj]; rfl) h2 (hm := hm) c0 rfl (idsOkL_get hi hj) (noDeepL_get hd hj)
end
def idx : Nat → List AV → Tp
  | _, [] => []
  | k, x :: xs => (k, x) :: idx (k + 1) xs
theorem look_idx : ∀ (l : List AV) (k t : Nat) (v : AV), look (idx k l) t = some v → k ≤ t ∧ l[t - k]? = some v
  | [], k, t, v, h => by simp [idx, look_nil] at h
  | x :: l, k, t, v, h => by
    simp only [idx, look_cons] at h
    split at h
    · rename_i he; subst he; simp only [Option.some.injEq] at h; subst h; simp
    · obtain ⟨h1, h2⟩ := look_idx l (k + 1) t v h
      refine ⟨by omega, ?_⟩
      rw [show t - k = (t - (k + 1)) + 1 by omega]
      simpa using h2
inductive ResOne (P : Program) (T : Tp) (H : Hp) : ResultVar → AV → Prop
  | tmp (t : Nat) (v : AV) (h : look T t = some v) : ResOne P T H (.tmp t) v
  | agg (t : Nat) (ty : TypeId) (av : AV) (cells : List AV) (ti : TI) (h : look T t = some av) (hc : memOf H av cells) (hty : tiOf P ty = some ti) (ha : ti.agg = true) (hn : ti.cells ≤ cells.length) : ResOne P T H (.cell t ty) (.agg (cells.take ti.cells))
  | one (t : Nat) (ty : TypeId) (av : AV) (c : AV) (cells : List AV) (ti : TI) (h : look T t = some av) (hc : memOf H av (c :: cells)) (hty : tiOf P ty = some ti) (ha : ti.agg = false) : ResOne P T H (.cell t ty) c
def resOne (tmps : Array Value) : ResultVar → Sem Value
  | .tmp t => pure (tmps.getD t undef)
  | .cell a t => do loadVar t (← asAddr (tmps.getD a undef))
section
variable {P : Program} {Old : Nat → Prop} {wi : WI Old} {K : Nat → Prop} {m : Nat → Loc} {S : Nat → Prop} {H : Hp} {w : World} {N n : Nat} {T : Tp} {a : Act}
theorem ResOne.run {rv : ResultVar} {v : AV} (h : ResOne P T H rv v) (hr : Rel Old wi K m S H w) (ht : TRel K w m S N T a) : ∃ x, (resOne a.tmps rv).run P w = .ok x w ∧ VR K w m S v x := by
  cases h with
  | tmp t v h => exact ⟨_, rfl, ht.tm t v h⟩
  | agg t ty av cells ti h hc hty ha hn =>
    have hs := s_load_agg (N := N) (n := 0) (o := { dst := none, op := .load ty (.tmp t), type := 0, pos := "", after := #[], guard := none }) rfl hty (T := T) (av := av) h hc ha hn
    have := hs.2 Old wi K m S a w (fun i h1 h2 => by omega) hr ht (fun _ _ => True) (fun _ _ _ => True) (fun _ _ _ _ _ => trivial)
    obtain ⟨g, p, hp, hrd⟩ := rd_at hr (ht.tm t av h) hc
    obtain ⟨i, d, z, hi, hd, hzz, hsz, hagg, hby, hzl, htk⟩ := tiOf_spec hty
    let f : Nat → Value := fun j => (w.cell? ⟨g, p + j, none⟩).getD undef
    have hf : ∀ j, j < ti.cells → ∃ cv y, cells[j]? = some cv ∧ w.cell? ⟨g, p + j, none⟩ = some y ∧ VR K w m S cv y := fun j hj => by
      have hlt : j < cells.length := by omega
      obtain ⟨y, hy, _, hvy⟩ := hrd j _ (List.getElem?_eq_getElem hlt)
      exact ⟨_, y, List.getElem?_eq_getElem hlt, hy, hvy⟩
    have hrun : (loadCells ⟨g, p, none⟩ ti.cells).run P w = .ok ((List.range ti.cells).map f).toArray w := by
      refine run_loadCells w _ ti.cells f fun j hj => ?_
      obtain ⟨cv, y, _, hy, _⟩ := hf j hj
      rw [Go.WideShapes.add_plain]
      simp only [f, hy, Option.getD_some]
    refine ⟨.agg ((List.range ti.cells).map f).toArray, ?_, ?_⟩
    · simp only [resOne, hp, asAddr, Sem.run_bind, Sem.run_pure, Result.andThen, loadVar, run_isAgg w hd, hagg, ha, if_true, run_sizeOf w hi, Program.cellsOf, hi, Option.map_some, Option.getD_some, hsz, hrun]
    · refine .agg _ _ _ (by simp; omega) fun j cv y h1 h2 => ?_
      rw [List.getElem?_take] at h1
      split at h1
      · rename_i hj
        obtain ⟨cv', y', hc', hy', hv'⟩ := hf j hj
        rw [h1] at hc'
        simp only [Option.some.injEq] at hc'
        subst hc'
        rw [List.getElem?_map, List.getElem?_range hj] at h2
        simp only [f, hy', Option.getD_some, Option.map_some, Option.some.injEq] at h2
        subst h2
        exact hv'
      · cases h1
  | one t ty av c cells ti h hc hty ha =>
    obtain ⟨g, p, hp, hrd⟩ := rd_at hr (ht.tm t av h) hc
    obtain ⟨i, d, z, hi, hd, hzz, hsz, hagg, hby, hzl, htk⟩ := tiOf_spec hty
    obtain ⟨y, hy, _, hvy⟩ := hrd 0 _ rfl
    rw [Nat.add_zero] at hy
    refine ⟨y, ?_, hvy⟩
    simp only [resOne, hp, asAddr, Sem.run_bind, Sem.run_pure, Result.andThen, loadVar, run_isAgg w hd, hagg, ha]
    simp [load, Sem.run, hy]
inductive ResV (P : Program) (T : Tp) (H : Hp) : List ResultVar → AV → Prop
  | r1 (r : ResultVar) (v : AV) (h : ResOne P T H r v) : ResV P T H [r] v
  | r2 (r1 r2 : ResultVar) (v1 v2 : AV) (h1 : ResOne P T H r1 v1) (h2 : ResOne P T H r2 v2) : ResV P T H [r1, r2] (.tup [v1, v2])
  | r3 (r1 r2 r3 : ResultVar) (v1 v2 v3 : AV) (h1 : ResOne P T H r1 v1) (h2 : ResOne P T H r2 v2) (h3 : ResOne P T H r3 v3) : ResV P T H [r1, r2, r3] (.tup [v1, v2, v3])
  | r0 : ResV P T H [] (.tup [])
  | r4 (r1 r2 r3 r4 : ResultVar) (v1 v2 v3 v4 : AV) (h1 : ResOne P T H r1 v1) (h2 : ResOne P T H r2 v2) (h3 : ResOne P T H r3 v3) (h4 : ResOne P T H r4 v4) : ResV P T H [r1, r2, r3, r4] (.tup [v1, v2, v3, v4])
theorem results_eq (fn : Func) (tmps : Array Value) : results fn tmps = (do let vs ← fn.results.mapM (resOne tmps); pure (if h : vs.size = 1 then vs[0] else .tuple vs)) := by
  unfold results
  congr 1
theorem ResV.run {fn : Func} {v : AV} (h : ResV P T H fn.results.toList v) (hr : Rel Old wi K m S H w) (ht : TRel K w m S N T a) : ∃ x, (results fn a.tmps).run P w = .ok x w ∧ VR K w m S v x := by
  obtain ⟨l, hl⟩ : ∃ l, fn.results = l.toArray := ⟨fn.results.toList, by simp⟩
  rw [hl] at h
  rw [results_eq, hl]
  cases h with
  | r1 r v h =>
    obtain ⟨x, h1, h2⟩ := h.run hr ht
    exact ⟨x, by simp [h1], h2⟩
  | r2 r1 r2 v1 v2 h1 h2 =>
    obtain ⟨x1, e1, g1⟩ := h1.run hr ht
    obtain ⟨x2, e2, g2⟩ := h2.run hr ht
    refine ⟨.tuple [x1, x2].toArray, by simp [Result.andThen, e1, e2], .tup _ _ [x1, x2] rfl fun j cv y hj hy => ?_⟩
    match j with
    | 0 => simp at hj hy; subst hj hy; exact g1
    | 1 => simp at hj hy; subst hj hy; exact g2
    | j + 2 => simp at hj
  | r3 r1 r2 r3 v1 v2 v3 h1 h2 h3 =>
    obtain ⟨x1, e1, g1⟩ := h1.run hr ht
    obtain ⟨x2, e2, g2⟩ := h2.run hr ht
    obtain ⟨x3, e3, g3⟩ := h3.run hr ht
    refine ⟨.tuple [x1, x2, x3].toArray, by simp [Result.andThen, e1, e2, e3], .tup _ _ [x1, x2, x3] rfl fun j cv y hj hy => ?_⟩
    match j with
    | 0 => simp at hj hy; subst hj hy; exact g1
    | 1 => simp at hj hy; subst hj hy; exact g2
    | 2 => simp at hj hy; subst hj hy; exact g3
    | j + 3 => simp at hj
  | r0 => exact ⟨.tuple [].toArray, by simp, .tup _ _ [] rfl fun j cv y hj hy => by simp at hj⟩
  | r4 r1 r2 r3 r4 v1 v2 v3 v4 h1 h2 h3 h4 =>
    obtain ⟨x1, e1, g1⟩ := h1.run hr ht
    obtain ⟨x2, e2, g2⟩ := h2.run hr ht
    obtain ⟨x3, e3, g3⟩ := h3.run hr ht
    obtain ⟨x4, e4, g4⟩ := h4.run hr ht
    refine ⟨.tuple [x1, x2, x3, x4].toArray, by simp [Result.andThen, e1, e2, e3, e4], .tup _ _ [x1, x2, x3, x4] rfl fun j cv y hj hy => ?_⟩
    match j with
    | 0 => simp at hj hy; subst hj hy; exact g1
    | 1 => simp at hj hy; subst hj hy; exact g2
    | 2 => simp at hj hy; subst hj hy; exact g3
    | 3 => simp at hj hy; subst hj hy; exact g4
    | j + 4 => simp at hj
end
def shH (n : Nat) (U : Hp) : Hp := U.map fun p => (p.1 + n, renB (fun i => i + n) p.2)
structure FinOk (P : Program) (rs : List ResultVar) (v : AV) (U : Hp) (k : Nat) (T : Tp) (H : Hp) : Prop where
  res : ∃ u ρ, ResV P T H rs u ∧ u = renA ρ v ∧ subH H ρ k U ∧ injB ρ (U.map (·.1)) = true
  ids : idsOk k v = true
  nd : noDeep v = true
  ndU : U.all (fun p => noDeepB p.2) = true
def Fin (P : Program) (rs : List ResultVar) (v : AV) (U : Hp) (k : Nat) : Exit → Tp → Hp → Nat → Prop
  | .normal, T, H, _ => FinOk P rs v U k T H
  | .ret, T, H, _ => FinOk P rs v U k T H
  | _, _, _, _ => False
theorem look_shH {n : Nat} : ∀ {U : Hp} {i : Nat} {b : Blk}, look (shH n U) i = some b → ∃ j b0, i = j + n ∧ look U j = some b0 ∧ b = renB (fun i => i + n) b0
  | [], i, b, h => by simp [shH, look_nil] at h
  | (u, x) :: U, i, b, h => by
    have h : look ((u + n, renB (fun i => i + n) x) :: shH n U) i = some b := h
    rw [look_cons] at h
    split at h
    · rename_i he; simp only [Option.some.injEq] at h; exact ⟨u, x, he.symm, by rw [look_cons, if_pos rfl], h.symm⟩
    · rename_i he
      obtain ⟨j, b0, h1, h2, h3⟩ := look_shH h
      refine ⟨j, b0, h1, ?_, h3⟩
      rw [look_cons, if_neg (fun e => he (by rw [e, h1]))]
      exact h2
theorem look_all {f : Nat × Blk → Bool} : ∀ {U : Hp} {i : Nat} {b : Blk}, U.all f = true → look U i = some b → f (i, b) = true
  | [], i, b, _, h => by simp [look_nil] at h
  | (u, x) :: U, i, b, ha, h => by
    simp only [List.all_cons, Bool.and_eq_true] at ha
    rw [look_cons] at h
    split at h
    · rename_i he; subst he; simp only [Option.some.injEq] at h; subst h; exact ha.1
    · exact look_all ha.2 h
def fullB (U : Hp) (k : Nat) : Bool := U.all (fun p => Nat.blt p.1 k && !Nat.beq p.2.size 1000003) && (List.range k).all fun i => (look U i).isSome
theorem RO.of {P : Program} {f : FuncId} {fn : Func} {c : Code} {args : List AV} {v : AV} {U : Hp} (n k : Nat) (hf : P.funcs[f]? = some fn) (hb : fn.body = some c) (hg : goFn P f = true) (hN : args.length ≤ fn.ntmps) (hU : fullB U k = true)
    (h : AW P fn.ntmps 0 c (Fin P fn.results.toList v U k) (idx 0 args) [] 0) : RO P f args n (renA (fun i => i + n) v) (shH n U) (n + k) := by
  simp only [fullB, Bool.and_eq_true] at hU
  obtain ⟨hU1, hU2⟩ := hU
  have hids : ∀ i b, look (shH n U) i = some b → n ≤ i ∧ i < n + k := fun i b hl => by
    obtain ⟨j, b0, h1, h2, _⟩ := look_shH hl
    have := look_all hU1 h2
    simp only [Nat.blt_eq, Bool.and_eq_true] at this
    omega
  refine ⟨hg, by omega, hids, fun K w xs hgl hk hv => ?_⟩
  refine calls_of_wp hf hb ?_
  have hsz : xs.length = args.length := hv.1
  have hr0 : Rel (fun i => i < w.heap.size) ⟨w, fun _ => none, hgl, fun k hk => Nat.lt_of_lt_of_le hk hgl.size⟩ (fun i => i < w.heap.size) (fun _ => ⟨0, 0, 0, false⟩) (fun i => i < 0) [] w :=
    { pin := fun _ _ h => (by cases h), pinS := fun _ _ h => (by cases h), os := rfl, tape := rfl, output := rfl, size := Nat.le_refl _, old := fun _ _ => rfl, olt := fun _ h => h, oown := fun i b hl => by simp [look_nil] at hl, om := fun i b hl => by simp [look_nil] at hl, kb := fun _ h => h, inS := fun i b hl => by simp [look_nil] at hl, own := fun i b hl => by simp [look_nil] at hl, inj := fun i j bi bj hl => by simp [look_nil] at hl }
  have ht0 : TRel (fun i => i < w.heap.size) w (fun _ => ⟨0, 0, 0, false⟩) (fun i => i < 0) fn.ntmps (idx 0 args) { tmps := xs.toArray ++ Array.replicate (fn.ntmps - xs.toArray.size) undef, defers := [] } := by
    refine ⟨rfl, by simp; omega, fun t av hl => ?_⟩
    obtain ⟨_, h2⟩ := look_idx args 0 t av hl
    rw [Nat.sub_zero] at h2
    have hlt : t < xs.length := by rw [hsz]; exact (List.getElem?_eq_some_iff.1 h2).1
    have hx := List.getElem?_eq_getElem hlt
    have := hv.2 t av _ h2 hx
    have he : (xs.toArray ++ Array.replicate (fn.ntmps - xs.toArray.size) undef).getD t undef = xs[t] := by
      rw [Array.getD_eq_getD_getElem?, Array.getElem?_append_left (by simpa using hlt)]
      simp [hlt]
    show VR _ _ _ _ av ((xs.toArray ++ Array.replicate (fn.ntmps - xs.toArray.size) undef).getD t undef)
    rw [he]
    exact this.mono hk (fun _ _ => rfl) (fun _ h => h.elim) (fun _ h => h.elim)
  have fin : ∀ (a' : Act) (w' : World) (T' : Tp) (H' : Hp) (n' : Nat) (m' : Nat → Loc) (K' : Nat → Prop), FinOk P fn.results.toList v U k T' H' → Rel (fun i => i < w.heap.size) ⟨w, fun _ => none, hgl, fun k hk => Nat.lt_of_lt_of_le hk hgl.size⟩ K' m' (fun i => i < n') H' w' →
      TRel K' w' m' (fun i => i < n') fn.ntmps T' a' →
      a'.defers = [] ∧ ∃ x, (results fn a'.tmps).run P w' = .ok x w' ∧ ∃ r m', Ending.returned x = .returned r ∧ NewR n (n + k) (renA (fun i => i + n) v) (shH n U) w r w' m' := by
    intro a' w' T' H' n' m' K' hfin hr ht
    obtain ⟨u, ρ, hres, hu, hs, hi⟩ := hfin.res
    obtain ⟨x, hx, hvx⟩ := hres.run hr ht
    refine ⟨ht.dn, x, hx, x, fun i => m' (ρ (i - n)), rfl, ?_⟩
    have hm : ∀ i, i < k → (fun i => m' (ρ (i - n))) (i + n) = m' (ρ i) ∧ (n ≤ i + n ∧ i + n < n + k) := fun i hi => ⟨by simp, by omega, by omega⟩
    refine ⟨⟨hr.os, hr.tape, hr.output, hr.size, hr.old⟩, hvx.ren2 ρ (fun i => i + n) k hm v hu.symm hfin.ids hfin.nd, fun i h1 h2 hph => ?_, hids, fun i b hl => ?_, fun i j bi bj h1 h2 hne => ?_, fun i b hl hph hq => ?_⟩
    · have := List.all_eq_true.1 hU2 (i - n) (by simp; omega)
      obtain ⟨b0, hb0⟩ := Option.isSome_iff_exists.1 this
      have hnk : ¬ ((m' (ρ (i - n))).blk < w.heap.size) := hr.oown _ _ (subH_get hs hb0).1 hph
      show w.heap.size ≤ (m' (ρ (i - n))).blk
      omega
    · obtain ⟨j, b0, rfl, h2, rfl⟩ := look_shH hl
      obtain ⟨g1, g2, g3⟩ := subH_get hs h2
      have e : j + n - n = j := by omega
      rcases hr.own _ _ g1 with ⟨p1, p2⟩ | ⟨hph, hb⟩
      · refine .inl ⟨by simp only [e]; exact p1, ?_⟩
        cases hp : b0.pl with
        | true => have e : ∀ σ, renB σ b0 = b0 := fun σ => by cases b0; simp only at hp; subst hp; rfl
                  rw [e] at p2 ⊢; exact p2
        | false => have e : ∀ σ, renB σ b0 = { b0 with rows := b0.rows.map (renL σ) } := fun σ => by cases b0; simp only at hp; subst hp; rfl
                   rw [e] at p2 ⊢; simpa using p2
      refine .inr ⟨by simp only [e]; exact hph, ?_⟩
      obtain ⟨cur, c1, c2, c3⟩ := hb.ex
      cases hp : b0.pl with
      | true =>
        have e1 : ∀ σ, renB σ b0 = b0 := fun σ => by cases b0; simp only at hp; subst hp; rfl
        rw [e1] at hb c1 c2 c3 ⊢
        refine ⟨fun h => h, by simp only [e]; exact hb.sz, by simp only [e]; exact hb.cap, by simp only [e]; exact hb.capm, hb.plv, cur, by simp only [e]; exact c1, by simp only [e]; exact c2, fun r row hrow => ⟨(c3 r row hrow).1, fun i cv hi => ?_⟩⟩
        obtain ⟨y, hy, hone, hvy⟩ := (c3 r row hrow).2 i cv hi
        have := hb.plv hp r row hrow i cv hi
        refine ⟨y, hy, hone, ?_⟩
        cases cv <;> simp only [isV] at this <;> try (cases this)
        cases hvy
        exact .v _ _
      | false =>
        have e1 : ∀ σ, renB σ b0 = { b0 with rows := b0.rows.map (renL σ) } := fun σ => by cases b0; simp only at hp; subst hp; rfl
        rw [e1] at hb c1 c2 c3 ⊢
        have hcap := hb.cap
        simp only [List.length_map] at hcap
        have hnd := look_all hfin.ndU h2
        unfold noDeepB at hnd
        unfold idsOkB at g2
        simp only [hp] at hnd g2
        refine ⟨fun h => h, by simp only [e]; exact hb.sz, by simp only [e, List.length_map]; exact hcap, by simp only [e]; exact hb.capm, fun hc => absurd hc (by simp [hp]), cur, by simp only [e]; exact c1, by simp only [e]; exact c2, fun r row hrow => ?_⟩
        simp only [List.getElem?_map] at hrow
        cases hrow0 : b0.rows[r]? with
        | none => simp [hrow0] at hrow
        | some row0 =>
          simp only [hrow0, Option.map_some, Option.some.injEq] at hrow
          subst hrow
          obtain ⟨k1, k2⟩ := c3 r (renL ρ row0) (by simp [hrow0])
          rw [renL_len] at k1
          refine ⟨by rw [renL_len]; exact k1, fun i cv hi => ?_⟩
          rw [renL_get] at hi
          cases hi0 : row0[i]? with
          | none => simp [hi0] at hi
          | some cv0 =>
            simp only [hi0, Option.map_some, Option.some.injEq] at hi
            subst hi
            obtain ⟨y, hy, hone, hvy⟩ := k2 i (renA ρ cv0) (by rw [renL_get, hi0]; rfl)
            exact ⟨y, hy, hone, (hvy.ren2 ρ (fun i => i + n) k (S2 := fun i => (n ≤ i ∧ i < n + k) ∧ b0.pl = false) (fun i hi => ⟨(hm i hi).1, (hm i hi).2, hp⟩) cv0 rfl (idsOkL_get (List.all_eq_true.1 g2 _ (List.mem_of_getElem? hrow0)) hi0) (noDeepL_get (List.all_eq_true.1 hnd _ (List.mem_of_getElem? hrow0)) hi0))⟩
    · obtain ⟨i, b1, rfl, h1, _⟩ := look_shH h1
      obtain ⟨j, b2, rfl, h2, _⟩ := look_shH h2
      have e1 : i + n - n = i := by omega
      have e2 : j + n - n = j := by omega
      simp only [e1, e2]
      exact hr.inj _ _ _ _ (subH_get hs h1).1 (subH_get hs h2).1 (injB_spec hi i j (look_mem h1) (look_mem h2) (fun e => hne (by rw [e])))
    · obtain ⟨j, b0, rfl, h2, rfl⟩ := look_shH hl
      have e : j + n - n = j := by omega
      simp only [e] at hph hq
      have hz := (hr.om _ _ (subH_get hs h2).1 hph hq).1
      have := look_all hU1 h2
      simp only [Bool.and_eq_true, Bool.not_eq_true'] at this
      have h3 := this.2
      simp only [renB] at hz
      rw [hz] at h3
      exact absurd h3 (by decide)
  refine Go.wp_mono (wpIn_wide.1 (h _ ⟨w, fun _ => none, hgl, fun k hk => Nat.lt_of_lt_of_le hk hgl.size⟩ _ _ _ w (fun _ _ h => by cases h) hr0 ht0 none)) fun e a' w' ⟨T', H', n', m', K', _, q, hr, ht⟩ => ?_
  cases e with
  | normal => exact fin a' w' T' H' n' m' K' q hr ht
  | ret => exact fin a' w' T' H' n' m' K' q hr ht
  | exit id => exact q.elim
  | goto l => exact q.elim
  | panic ch => exact q.elim
  | outgrown => exact q.elim
theorem RO.ofv {P : Program} {f : FuncId} {fn : Func} {c : Code} {args : List AV} {x : Value} (n : Nat) (hf : P.funcs[f]? = some fn) (hb : fn.body = some c) (hg : goFn P f = true) (hN : args.length ≤ fn.ntmps)
    (h : AW P fn.ntmps 0 c (Fin P fn.results.toList (.v x) [] 0) (idx 0 args) [] 0) : RO P f args n (.v x) [] n := by
  have := RO.of n 0 hf hb hg hN (U := []) rfl h
  simpa [renA, shH] using this
end Go.Proofs.Ytljpgbgokjiamaa.Aw

namespace Go.Proofs.Ytljpgbgokjiamaa.Aw
open Go Go.RowKit
set_option linter.unusedSimpArgs false
set_option linter.unusedVariables false
section
variable {P : Program} {Old : Nat → Prop} {wi : WI Old} {K : Nat → Prop} {m : Nat → Loc} {S : Nat → Prop} {H : Hp} {w : World} {N n : Nat} {T : Tp} {o : Oper}
theorem s_slice_sl {t : TypeId} {ti : TI} {x : Operand} {e : TypeId} {es eb : Nat} {ez : List Value} {id row len : Nat} {b : Blk} {lo hi : Option Operand} {l h : Nat} (ho : o.op = .slice t x lo hi none) (hty : tiOf P t = some ti)
    (hk : ti.k = .slice e es eb ez) (hx : evalA T x = some (.sl id row len)) (hl : look H id = some b) (hb : b.size = es) (hn : row + len ≤ b.rows.length) (hlo : Bnd T lo 0 l) (hhi : Bnd T hi len h) (h1 : l ≤ h) (h2 : h ≤ len) :
    Step P o N T H n (.sl id (row + l) (h - l)) H n true := by
  obtain ⟨i, d, z, hi', hd, hzz, hsz, hagg, hby, hzl, htk⟩ := tiOf_spec hty
  rw [hk] at htk
  obtain ⟨ei, ezz, rfl, hei, _, hes, _, _⟩ := tk_slice htk
  refine Step.still fun Old wi K m S a w hr ht => ?_
  have hv := ht.eval hx
  generalize hxv : a.eval x = xv at hv
  cases hv with
  | sl0 _ _ _ ad hS =>
    have hl0 : l = 0 := by omega
    have hh0 : h = 0 := by omega
    subst hl0 hh0
    refine ⟨.slice (if (0 : Nat) = 0 then ad else ad.map (·.add (0 * es))) 0 0, ?_, .sl0 _ _ _ _ hS⟩
    have := run_bounds (P := P) (cap := 0) ht true hlo hhi h1 h2 (Nat.zero_le _)
    simp only [execOp, ho, hxv, Instr.sliceAt, Instr.slice, Sem.run_bind, run_underlying hd, Result.andThen, Option.map_none, this, Sem.run_pure, run_sizeOf w hei, Program.cellsOf, hei, Option.map_some, Option.getD_some, hes, Nat.sub_zero]
  | sl _ _ _ _ p c hS hph hp hc =>
    have hbr := (hr.own id b hl).br hph
    have hcap := hbr.cap
    have hlc : len ≤ c := by omega
    have := run_bounds (P := P) (cap := c) ht true hlo hhi h1 h2 hlc
    by_cases hcl : c = l
    · have hlh : h = l := by omega
      subst hlh
      subst hcl
      refine ⟨.slice (some ⟨(m id).blk, p, none⟩) 0 0, ?_, by rw [Nat.sub_self]; exact .sl0 _ _ _ _ hS⟩
      simp only [execOp, ho, hxv, Instr.sliceAt, Instr.slice, Sem.run_bind, run_underlying hd, Result.andThen, Option.map_none, this, Sem.run_pure, run_sizeOf w hei, Program.cellsOf, hei, Option.map_some, Option.getD_some, hes, Nat.sub_self, if_true]
    · refine ⟨.slice (some ⟨(m id).blk, p + l * es, none⟩) (h - l) (c - l), ?_, .sl _ _ _ _ _ _ hS hph ?_ ?_⟩
      · simp only [execOp, ho, hxv, Instr.sliceAt, Instr.slice, Sem.run_bind, run_underlying hd, Result.andThen, Option.map_none, this, Sem.run_pure, run_sizeOf w hei, Program.cellsOf, hei, Option.map_some, Option.getD_some, hes, if_neg hcl, Go.WideShapes.add_plain]
      · rw [hp, hbr.sz, hb, Nat.add_mul]
      · omega
theorem s_shr {x y : Operand} {t u : TypeId} {k k' : IntKind} {p q : Int} (ho : o.op = .binOp .shr t x y u) (hx : evalA T x = some (.v (.int k p))) (hy : evalA T y = some (.v (.int k' q))) (h0 : 0 ≤ q) :
    Step P o N T H n (.v (.int k (p / 2 ^ min q.toNat k.bits))) H n true :=
  s_two ho hx hy fun w => by
    simp only [Sem.run_bind, guard_int, Result.andThen]
    simp [binOp, shift_shr_any k k' p q h0]
def andI (k : IntKind) (p q : Int) : Int := k.wrap (BitVec.ofInt k.bits p &&& BitVec.ofInt k.bits q).toNat
theorem s_and {x y : Operand} {t u : TypeId} {k : IntKind} {p q : Int} (ho : o.op = .binOp .and t x y u) (hx : evalA T x = some (.v (.int k p))) (hy : evalA T y = some (.v (.int k q))) : Step P o N T H n (.v (.int k (andI k p q))) H n true :=
  s_two ho hx hy fun w => by
    simp only [Sem.run_bind, guard_int, Result.andThen]
    simp [binOp, Op.intBits, andI]
end
end Go.Proofs.Ytljpgbgokjiamaa.Aw

namespace Go.Proofs.Ytljpgbgokjiamaa.Aw
open Go Go.RowKit
set_option linter.unusedSimpArgs false
set_option linter.unusedVariables false
section
variable {P : Program} {Old : Nat → Prop} {wi : WI Old} {K : Nat → Prop} {m : Nat → Loc} {S : Nat → Prop} {H : Hp} {w : World} {N n : Nat} {T : Tp} {o : Oper}
theorem Rel.fill (hr : Rel Old wi K m S H w) {id d : Nat} {b : Blk} {rows : List (List AV)} {news : List Value} (pl : Bool) (hl : look H id = some b) (hph : (m id).ph = false) (hd : d ≤ b.rows.length) (hcap : d + rows.length ≤ (m id).cap)
    (hnl : news.length = rows.length * b.size) (hone : ∀ u ∈ news, u.oneCell' = true)
    (hnews : ∀ (r : Nat) (row : List AV), rows[r]? = some row → row.length = b.size ∧ ∀ (j : Nat) (cv : AV), row[j]? = some cv → ∃ y, news[r * b.size + j]? = some y ∧ VR K w m S cv y)
    (hpl : pl = true → b.pl = true ∧ (rows.all fun r => r.all isV) = true) :
    ∃ cur, w.heap[(m id).blk]? = some (.cells cur b.ty (0, 0)) ∧ d * b.size + news.length ≤ cur.size ∧
      Rel Old wi K m S (setH H id ⟨b.ty, b.size, pl, b.rows.take d ++ rows ++ b.rows.drop (d + rows.length)⟩) (w.setRow (m id).blk (cur.toList.take (d * b.size) ++ news ++ cur.toList.drop (d * b.size + news.length)).toArray) := by
  have hbr := (hr.own id b hl).br hph
  obtain ⟨cur, c1, c2, c3⟩ := hbr.ex
  have hmul : (d + rows.length) * b.size ≤ (m id).cap * b.size := Nat.mul_le_mul_right _ hcap
  rw [Nat.add_mul] at hmul
  have hfit : d * b.size + news.length ≤ cur.size := by rw [hnl, c2]; exact hmul
  have hfl : d * b.size + news.length ≤ cur.toList.length := by simpa using hfit
  have hlA : (b.rows.take d).length = d := by rw [List.length_take]; omega
  refine ⟨cur, c1, hfit, ?_⟩
  have hold : ∀ (k : Nat), k < d * b.size → (cur.toList.take (d * b.size) ++ news ++ cur.toList.drop (d * b.size + news.length))[k]? = cur[k]? := fun k hk => by
    rw [splice_get _ _ _ _ hfl, if_pos hk, Array.getElem?_toList]
  have hnew : ∀ (k : Nat), k < news.length → (cur.toList.take (d * b.size) ++ news ++ cur.toList.drop (d * b.size + news.length))[d * b.size + k]? = news[k]? := fun k hk => by
    rw [splice_get _ _ _ _ hfl, if_neg (by omega), if_pos (by omega), Nat.add_sub_cancel_left]
  have hbeh : ∀ (k : Nat), d * b.size + news.length ≤ k → (cur.toList.take (d * b.size) ++ news ++ cur.toList.drop (d * b.size + news.length))[k]? = cur[k]? := fun k hk => by
    rw [splice_get _ _ _ _ hfl, if_neg (by omega), if_neg (by omega), Array.getElem?_toList]
  have vrS : ∀ {r : Nat} {row : List AV} {j : Nat} {cv : AV} {y : Value}, b.rows[r]? = some row → row[j]? = some cv → VR K w m (fun i => S i ∧ b.pl = false) cv y → VR K w m (fun i => S i ∧ pl = false) cv y := fun {r row j cv y} hr' hj h3 => by
    cases pl with
    | false => exact h3.mono (fun _ h => h) (fun _ _ => rfl) (fun _ h => ⟨h.1, rfl⟩) (fun _ _ => rfl)
    | true => exact h3.plain (hbr.plv (hpl rfl).1 r row hr' j cv hj)
  have key1 := cat_rows (A := b.rows.take d) (B := rows) (K := K) (w := w) (m := m) (S := fun i => S i ∧ pl = false) (S' := S) (sz := b.size) (c := fun k => (cur.toList.take (d * b.size) ++ news ++ cur.toList.drop (d * b.size + news.length))[k]?)
    (fun r row hr' => by
      rw [List.getElem?_take] at hr'
      split at hr'
      · rename_i hrl
        obtain ⟨k1, k2⟩ := c3 r row hr'
        refine ⟨k1, fun j cv hj => ?_⟩
        obtain ⟨y, h1, h2, h3⟩ := k2 j cv hj
        have hjl : j < b.size := by rw [← k1]; exact (List.getElem?_eq_some_iff.1 hj).1
        exact ⟨y, by rw [hold _ (flat_lt hrl hjl)]; exact h1, h2, vrS hr' hj h3⟩
      · cases hr')
    (fun r row hr' => by
      obtain ⟨k1, k2⟩ := hnews r row hr'
      refine ⟨k1, fun j cv hj => ?_⟩
      obtain ⟨y, h1, h2⟩ := k2 j cv hj
      refine ⟨y, ?_, hone y (List.mem_of_getElem? h1), h2.forPl fun e => all_rows (hpl e).2 hr' hj⟩
      show (cur.toList.take (d * b.size) ++ news ++ cur.toList.drop (d * b.size + news.length))[(b.rows.take d).length * b.size + (r * b.size + j)]? = some y
      rw [hlA, hnew _ (List.getElem?_eq_some_iff.1 h1).1]; exact h1)
  have hlB : (b.rows.take d ++ rows).length = d + rows.length := by rw [List.length_append, hlA]
  have key := cat_rows (A := b.rows.take d ++ rows) (B := b.rows.drop (d + rows.length)) (K := K) (w := w) (m := m) (S := fun i => S i ∧ pl = false) (S' := S) (sz := b.size) (c := fun k => (cur.toList.take (d * b.size) ++ news ++ cur.toList.drop (d * b.size + news.length))[k]?) key1
    (fun r row hr' => by
      rw [List.getElem?_drop] at hr'
      obtain ⟨k1, k2⟩ := c3 _ row hr'
      refine ⟨k1, fun j cv hj => ?_⟩
      obtain ⟨y, h1, h2, h3⟩ := k2 j cv hj
      refine ⟨y, ?_, h2, vrS hr' hj h3⟩
      show (cur.toList.take (d * b.size) ++ news ++ cur.toList.drop (d * b.size + news.length))[(b.rows.take d ++ rows).length * b.size + (r * b.size + j)]? = some y
      rw [hlB, ← Nat.add_assoc, ← Nat.add_mul, hbeh _ (by rw [hnl, ← Nat.add_mul, Nat.add_mul (d + rows.length)]; omega)]
      exact h1)
  refine Rel.sub (H := (id, _) :: H) ?_ (fun i c h => look_setH h)
  refine hr.write (b' := ⟨b.ty, b.size, pl, _⟩) hl hph _ rfl rfl rfl rfl rfl (by simp) (fun k hk => setRow_other _ _ _ _ hk) (setRow_heap _ _ _ _ _ _ c1) ?_ ?_ ?_ ?_
  · have := hbr.cap
    simp only [List.length_append, hlA, List.length_drop]
    omega
  · intro hp r row hr' j cv hj
    obtain ⟨p1, p2⟩ := hpl hp
    rcases List.mem_append.1 (List.mem_of_getElem? hr') with h | h
    · rcases List.mem_append.1 h with h | h
      · obtain ⟨q, hq⟩ := List.mem_iff_getElem?.1 (List.mem_of_mem_take h)
        exact hbr.plv p1 q row hq j cv hj
      · exact List.all_eq_true.1 (List.all_eq_true.1 p2 row h) cv (List.mem_of_getElem? hj)
    · obtain ⟨q, hq⟩ := List.mem_iff_getElem?.1 (List.mem_of_mem_drop h)
      exact hbr.plv p1 q row hq j cv hj
  · rw [← c2]; simp; omega
  · intro r row hr'
    obtain ⟨k1, k2⟩ := key r row hr'
    exact ⟨k1, fun j cv hj => by obtain ⟨y, h1, h2, h3⟩ := k2 j cv hj; exact ⟨y, by simpa using h1, h2, h3⟩⟩
end
section
variable {P : Program} {N g n : Nat} {Q : Exit → Tp → Hp → Nat → Prop} {T : Tp} {H : Hp}
end
end Go.Proofs.Ytljpgbgokjiamaa.Aw
