/-
  Maps of the call's own, keyed by 64-bit integers: made, read, written.
-/
import Derived.Test.YtglfcaioapdiaaaAwFy
import Derived.MapKept
namespace Go.Proofs.Ytglfcaioapdiaaa.Aw
open Go Go.RowKit
set_option linter.unusedVariables false
set_option linter.unusedSimpArgs false

mutual
def noOm : AV → Bool
  | .om _ _ => false
  | .agg cs => noOmL cs
  | .tup cs => noOmL cs
  | .fn _ cs => noOmL cs
  | _ => true
def noOmL : List AV → Bool
  | [] => true
  | x :: xs => noOm x && noOmL xs
end
theorem noOmL_get : ∀ {l : List AV} {j : Nat} {v : AV}, noOmL l = true → l[j]? = some v → noOm v = true
  | [], j, v, _, h => by simp at h
  | x :: l, 0, v, h, h2 => by simp [noOmL] at h; simp at h2; subst h2; exact h.1
  | x :: l, j + 1, v, h, h2 => by simp [noOmL] at h; simp at h2; exact noOmL_get h.2 h2

section
variable {K : Nat → Prop} {w w' : World} {m : Nat → Loc} {B : Nat} {es0 : Array MapEntry} {c0 : Nat}
theorem cell_thaw (hB : w.heap[B]? = some (.map es0 c0)) (hne : ∀ k, k ≠ B → w'.heap[k]? = w.heap[k]?) {b o : Nat} {s : Option (Nat × Nat)} {x : Value} (h : w.cell? ⟨b, o, none⟩ = some x) : w'.cell? ⟨b, o, none⟩ = some x := by
  by_cases e : b = B
  · subst e; simp [World.cell?, hB] at h
  · rw [World.cell?_of_block (w := w) (hne b e)]; exact h
/-- a map has turned: what holds no map still stands -/
theorem VR.thaw (hB : w.heap[B]? = some (.map es0 c0)) (hne : ∀ k, k ≠ B → w'.heap[k]? = w.heap[k]?) {S : Nat → Prop} {av : AV} {x : Value} (h : VR K w m S av x) : (noOm av = true ∨ ∀ i, ¬ S i) → VR K w' m S av x := by
  induction h with
  | v S x => intro _; exact .v _ _
  | dsl0 S size a c => intro _; exact .dsl0 _ _ _ _
  | dsl S size rows n b o c xs hn hc hk hl hx hv ih =>
    intro _
    exact .dsl _ _ _ n b o c xs hn hc hk hl (fun r row j cv h1 h2 => ⟨cell_thaw (s := none) hB hne (hx r row j cv h1 h2).1, (hx r row j cv h1 h2).2⟩) (fun r row j cv h1 h2 => ih r row j cv h1 h2 (.inr fun _ h => h))
  | dptr S cells b o xs hk hx hv ih =>
    intro _
    exact .dptr _ _ b o xs hk (fun j cv h1 => ⟨cell_thaw (s := none) hB hne (hx j cv h1).1, (hx j cv h1).2⟩) (fun j cv h1 => ih j cv h1 (.inr fun _ h => h))
  | om S id D es c b hs hp hq hb hk ho hD =>
    intro h
    rcases h with h | h
    · simp [noOm] at h
    · exact absurd hs (h id)
  | emp S a => intro _; exact .emp _ _
  | ptr S id row col o hs ho => intro _; exact .ptr _ _ _ _ _ hs ho
  | sl S id row len o c hs hp ho hc => intro _; exact .sl _ _ _ _ _ _ hs hp ho hc
  | sl0 S id row a hs => intro _; exact .sl0 _ _ _ _ hs
  | sx S id row len cap o c hs hp ho hcap hc => intro _; exact .sx _ _ _ _ _ _ _ hs hp ho hcap hc
  | agg S cs xs hl hv ih =>
    intro h
    exact .agg _ _ _ hl fun j cv y h1 h2 => ih j cv y h1 h2 (h.imp (fun h => by simp only [noOm] at h; exact noOmL_get h h1) id)
  | tup S cs xs hl hv ih =>
    intro h
    exact .tup _ _ _ hl fun j cv y h1 h2 => ih j cv y h1 h2 (h.imp (fun h => by simp only [noOm] at h; exact noOmL_get h h1) id)
  | fn S f cs xs hl hv ih =>
    intro h
    exact .fn _ _ _ _ hl fun j cv y h1 h2 => ih j cv y h1 h2 (h.imp (fun h => by simp only [noOm] at h; exact noOmL_get h h1) id)
end

def noOmB (b : Blk) : Bool := b.pl || b.rows.all noOmL
def noOmH (H : Hp) : Bool := H.all fun p => noOmB p.2
/-- a temporary's value, where map id has turned to D -/
def omU (id : Nat) (D : List (Value × Value)) : AV → Option AV
  | .om i _ => if Nat.beq i id then some (.om id D) else none
  | .v x => some (.v x)
  | .dsl s r => some (.dsl s r)
  | .dptr c => some (.dptr c)
  | .ptr i r c => some (.ptr i r c)
  | .sl i r l => some (.sl i r l)
  | .sx i r l c => some (.sx i r l c)
  | .emp => some .emp
  | .agg cs => if noOmL cs then some (.agg cs) else none
  | .tup cs => if noOmL cs then some (.tup cs) else none
  | .fn f cs => if noOmL cs then some (.fn f cs) else none
theorem omU_spec {id : Nat} {D : List (Value × Value)} {v v' : AV} (h : omU id D v = some v') : (v' = v ∧ noOm v = true) ∨ ∃ D0, v = .om id D0 ∧ v' = .om id D := by
  cases v <;> simp only [omU] at h
  case om i D0 =>
    split at h
    · rename_i he
      simp only [Option.some.injEq] at h
      exact .inr ⟨D0, by rw [Nat.eq_of_beq_eq_true he], h.symm⟩
    · cases h
  case agg cs => split at h <;> simp_all [noOm]
  case tup cs => split at h <;> simp_all [noOm]
  case fn f cs => split at h <;> simp_all [noOm]
  all_goals (simp only [Option.some.injEq] at h; exact .inl ⟨h.symm, rfl⟩)
def omT (id : Nat) (D : List (Value × Value)) : Tp → Option Tp
  | [] => some []
  | (t, v) :: T => match omU id D v, omT id D T with
    | some v', some T' => some ((t, v') :: T')
    | _, _ => none
theorem omT_spec {id : Nat} {D : List (Value × Value)} : ∀ {T T' : Tp}, omT id D T = some T' → ∀ {t : Nat} {v' : AV}, look T' t = some v' → ∃ v, look T t = some v ∧ omU id D v = some v'
  | [], T', h, t, v', hl => by simp [omT] at h; subst h; simp [look_nil] at hl
  | (u, x) :: T, T', h, t, v', hl => by
    simp only [omT] at h
    split at h
    · rename_i x' T1 h1 h2
      simp only [Option.some.injEq] at h
      subst h
      rw [look_cons] at hl ⊢
      split at hl
      · rename_i e; subst e; simp only [Option.some.injEq] at hl; subst hl; exact ⟨x, by rw [if_pos rfl], h1⟩
      · rename_i e; rw [if_neg e]; exact omT_spec h2 hl
    · cases h

/-- what a map holds at a key, and the map with another element there -/
def mget (D : List (Value × Value)) (k : Int) : Option Value := match D with
  | [] => none
  | (x, v) :: D => match x with
    | .int .i64 j => if k == j then some v else mget D k
    | _ => none
def mset (D : List (Value × Value)) (k : Int) (v : Value) : List (Value × Value) := match D with
  | [] => [(.int .i64 k, v)]
  | (x, u) :: D => match x with
    | .int .i64 j => if k == j then (.int .i64 k, v) :: D else (x, u) :: mset D k v
    | _ => []
def keysI (D : List (Value × Value)) : Bool := D.all fun p => match p.1 with
  | .int .i64 _ => true
  | _ => false
def mentry (e : MapEntry) : Value × Value := (e.key, e.val)
theorem findNow_mget : ∀ (l : List MapEntry) (i : Nat) (k : Int), keysI (l.map mentry) = true →
    (mget (l.map mentry) k = none ∧ mset (l.map mentry) k = (fun v => l.map mentry ++ [(.int .i64 k, v)]) ∧ Instr.findNow (.int .i64) (.int .i64 k) l i = some none) ∨
    (∃ v j, mget (l.map mentry) k = some v ∧ Instr.findNow (.int .i64) (.int .i64 k) l i = some (some (i + j, v)) ∧ (∃ e, l[j]? = some e ∧ e.key = .int .i64 k) ∧ mset (l.map mentry) k = (fun u => (l.map mentry).set j (.int .i64 k, u)))
  | [], i, k, _ => .inl ⟨rfl, by funext v; rfl, rfl⟩
  | e :: l, i, k, h => by
    obtain ⟨ek, ev, eb⟩ := e
    simp only [keysI, List.map_cons, List.all_cons, Bool.and_eq_true, mentry] at h
    obtain ⟨h1, h2⟩ := h
    have hk : ∃ j, ek = .int .i64 j := by
      cases ek <;> first | (rename_i q j; cases q <;> first | exact ⟨_, rfl⟩ | (simp at h1; done)) | (simp at h1; done)
    obtain ⟨j, rfl⟩ := hk
    clear h1
    by_cases hkj : k = j
    · subst hkj
      refine .inr ⟨ev, 0, by simp [mget, mentry], by simp [Instr.findNow, Instr.sameNow], ⟨_, rfl, rfl⟩, ?_⟩
      funext u
      simp [mset, mentry]
    · have hb : (k == j) = false := by simpa using hkj
      have hs : Instr.sameNow (.int .i64) (.int .i64 k) (.int .i64 j) = some false := by simp [Instr.sameNow, hkj]
      rcases findNow_mget l (i + 1) k h2 with ⟨g1, g2, g3⟩ | ⟨v, q, g1, g2, g3, g4⟩
      · refine .inl ⟨by simp [mget, mentry, hb]; exact g1, ?_, by simp [Instr.findNow, hs, g3]⟩
        funext u
        have := congrFun g2 u
        simp only [mset, mentry, List.map_cons, hb] at this ⊢
        simp [this]
      · refine .inr ⟨v, q + 1, by simp [mget, mentry, hb]; exact g1, by simp [Instr.findNow, hs, g2]; omega, by simpa using g3, ?_⟩
        funext u
        have := congrFun g4 u
        simp only [mset, mentry, List.map_cons, hb] at this ⊢
        simp [this]

section
variable {P : Program} {Old : Nat → Prop} {wi : WI} {K : Nat → Prop} {m : Nat → Loc} {S : Nat → Prop} {H : Hp} {w : World} {N n : Nat} {T : Tp} {o : Oper} {a : Act}

theorem Rel.newMap (hr : Rel Old wi K m S H w) {n : Nat} (hn : ¬ S n) : Rel Old wi (fun k => K k ∨ k = w.heap.size) (updL m n ⟨w.heap.size, 1, 0, true⟩) (addS S n (n + 1)) ((n, ⟨0, 1000003, true, []⟩) :: H) (w.alloc (.map #[] 0)) := by
  have hm : ∀ i, S i → updL m n ⟨w.heap.size, 1, 0, true⟩ i = m i := fun i hi => updL_ne _ _ (fun e => hn (e ▸ hi))
  have hk : ∀ k, k < w.heap.size → (w.alloc (.map #[] 0)).heap[k]? = w.heap[k]? := fun k hk => Below.heap_alloc _ _ _ hk
  have hsize : (w.alloc (.map #[] 0)).heap.size = w.heap.size + 1 := by simp
  have part : ∀ i bi, look ((n, (⟨0, 1000003, true, []⟩ : Blk)) :: H) i = some bi → (i = n ∧ bi = ⟨0, 1000003, true, []⟩) ∨ (i ≠ n ∧ look H i = some bi) := fun i bi h => by
    rw [look_cons] at h
    split at h
    · rename_i he; simp only [Option.some.injEq] at h; exact .inl ⟨he.symm, h.symm⟩
    · rename_i he; exact .inr ⟨fun e => he e.symm, h⟩
  refine { os := hr.os, tape := hr.tape, output := hr.output, size := by rw [hsize]; have := hr.size; omega, old := fun k ho => by rw [hk k (hr.olt k ho)]; exact hr.old k ho, olt := fun k ho => by rw [hsize]; have := hr.olt k ho; omega, oown := ?_, om := ?_, kb := fun k hkk => by rw [hsize]; rcases hkk with h | h; (have := hr.kb k h; omega); omega, pin := fun i l hp => (hm i (hr.pinS i l hp)).trans (hr.pin i l hp), pinS := fun i l hp => .inl (hr.pinS i l hp), inS := ?_, own := ?_, inj := ?_ }
  · intro i bi h
    rcases part i bi h with ⟨rfl, rfl⟩ | ⟨hne, h2⟩
    · rw [updL_same]; intro h; cases h
    · rw [updL_ne _ _ hne]; exact hr.oown i bi h2
  · intro i bi h
    rcases part i bi h with ⟨rfl, rfl⟩ | ⟨hne, h2⟩
    · rw [updL_same]; exact fun _ _ => ⟨rfl, .inr rfl, fun ho => Nat.lt_irrefl _ (hr.olt _ ho)⟩
    · rw [updL_ne _ _ hne]; exact fun hp hq => ⟨(hr.om i bi h2 hp hq).1, .inl (hr.om i bi h2 hp hq).2.1, (hr.om i bi h2 hp hq).2.2⟩
  · intro i bi h
    rcases part i bi h with ⟨rfl, rfl⟩ | ⟨_, h2⟩
    · exact .inr ⟨Nat.le_refl _, Nat.lt_succ_self _⟩
    · exact .inl (hr.inS i bi h2)
  · intro i bi h
    rcases part i bi h with ⟨rfl, rfl⟩ | ⟨_, h2⟩
    · exact .inl ⟨by rw [updL_same], rfl⟩
    · exact (hr.own i bi h2).mono2 (fun _ h => .inl h) (fun hp hk => by
        rcases hk with hk | hk
        · exact hk
        · have := ((hr.own i bi h2).br hp).lt_size; omega) (fun k hkk => hk k (hr.kb k hkk)) (fun _ hb => hk _ hb.lt_size) (fun i hi => .inl hi) hm (hr.inS i bi h2)
  · intro i j bi bj h1 h2 hne
    rcases part i bi h1 with ⟨rfl, rfl⟩ | ⟨hi, hhi⟩ <;> rcases part j bj h2 with ⟨rfl, rfl⟩ | ⟨hj, hhj⟩
    · exact absurd rfl hne
    · rw [updL_same]; intro h; cases h
    · rw [updL_same]; intro _ h; cases h
    · rw [updL_ne _ _ hi, updL_ne _ _ hj]; exact hr.inj i j bi bj hhi hhj hne
/-- make(map[K]V) -/
theorem s_makeMap {t : TypeId} (ho : o.op = .makeMap t none) : Step P o N T H n (.om n []) ((n, ⟨0, 1000003, true, []⟩) :: H) (n + 1) true := by
  refine ⟨Nat.le_succ _, fun Old wi K m S a w hS hr ht next Q hn => ?_⟩
  have hrun : (execOp a.eval o).run P w = .ok (.value (.map (some w.heap.size))) (w.alloc (.map #[] 0)) := by
    simp only [execOp, ho]; rfl
  unfold Oper.wp
  rw [hrun]
  have hns : ¬ S n := hS n (Nat.le_refl _) (Nat.lt_succ_self _)
  refine hn _ _ (updL m n ⟨w.heap.size, 1, 0, true⟩) (fun k => K k ∨ k = w.heap.size) ⟨fun i hi => updL_ne _ _ (fun e => hi (by omega)), ⟨fun _ h => .inl h, fun k hk ho => ?_⟩, hr.newMap hns, ?_, fun k hk => Below.heap_alloc _ _ _ (hr.kb k hk), fun _ => ⟨(Below.refl _ w).alloc (Nat.le_refl _) _, fun i hi hi' hp => ?_, fun k hk hlt => ?_⟩⟩
  · rcases hk with h | h
    · exact h
    · have := hr.olt k ho; omega
  · exact .om _ n [] #[] 0 _ (.inr ⟨Nat.le_refl _, Nat.lt_succ_self _⟩) (by rw [updL_same]) (by rw [updL_same]) (by rw [updL_same]) (.inr rfl) (heap_alloc_new w _) rfl
  · have : i = n := by omega
    subst this
    rw [updL_same] at hp
    cases hp
  · rcases hk with h | h
    · exact h
    · omega
/-- m[k], with or without ok -/
theorem s_lookup {t kt et : TypeId} {x y : Operand} {id : Nat} {D : List (Value × Value)} {k : Int} {z r : Value} {ok b : Bool} (ho : o.op = .lookup t x y ok) (hx : evalA T x = some (.om id D)) (hy : evalA T y = some (.v (.int .i64 k)))
    (ht : P.underlying t = some (.map kt et)) (hkt : P.underlying kt = some (.int .i64)) (hz : (P.info? et).bind (·.zero) = some z) (hD : keysI D = true) (hb : (mget D k).isSome = b) (hr : (mget D k).getD z = r) :
    Step P o N T H n (.v (if ok then .tuple #[r, .bool b] else r)) H n true := by
  refine Step.still fun Old wi K m S a w hrel htr => ?_
  have hxx := htr.eval hx
  have hyy := htr.eval hy
  generalize hxv : a.eval x = xv at hxx
  generalize hyv : a.eval y = yv at hyy
  cases hyy
  cases hxx with
  | om _ _ _ es c b0 hs hp hq hbb hk hoo hDD =>
    refine ⟨_, ?_, .v _ _⟩
    have hDm : es.toList.map mentry = D := hDD
    rw [← hDm] at hD hb hr
    have hzz : (zeroValue et).run P w = .ok z w := by
      cases hi : P.info? et with
      | none => rw [hi] at hz; cases hz
      | some i =>
        rw [hi] at hz
        simp only [Option.bind_some] at hz
        simp [zeroValue, typeInfo, hi, hz, Result.andThen]
    rcases findNow_mget es.toList 0 k hD with ⟨g1, _, g3⟩ | ⟨v, j, g1, g2, _, _⟩
    · rw [g1] at hb hr
      subst hb hr
      simp only [execOp, ho, hxv, hyv, Instr.lookup, Sem.run_bind, Sem.run_pure, run_underlying ht, Result.andThen, MapKept.run_getObj_map hoo, MapKept.run_checkKey (P := P) (w := w) hkt (k := .int .i64 k) (by trivial), MapKept.run_findKey (P := P) (w := w) hkt g3, hzz]
      cases ok <;> rfl
    · rw [g1] at hb hr
      subst hb hr
      simp only [execOp, ho, hxv, hyv, Instr.lookup, Sem.run_bind, Sem.run_pure, run_underlying ht, Result.andThen, MapKept.run_getObj_map hoo, MapKept.run_checkKey (P := P) (w := w) hkt (k := .int .i64 k) (by trivial), MapKept.run_findKey (P := P) (w := w) hkt g2]
      cases ok <;> rfl

/-- the world with another object in a block -/
def setO (w : World) (b : Nat) (ob : Obj) : World := { w with heap := w.heap.setIfInBounds b ob }
theorem setO_at {w : World} {b : Nat} {ob ob' : Obj} (h : w.heap[b]? = some ob') : (setO w b ob).heap[b]? = some ob ∧ (∀ k, k ≠ b → (setO w b ob).heap[k]? = w.heap[k]?) ∧ (setO w b ob).heap.size = w.heap.size :=
  ⟨(MapKept.heap_set h).1, (MapKept.heap_set h).2, by simp [setO]⟩

/-- a map's store, all at once -/
theorem run_mapUpdate {P : Program} {w : World} {t kt et : TypeId} {b c : Nat} {es : Array MapEntry} {k : Int} {v : Value} {D : List (Value × Value)} (ht : P.underlying t = some (.map kt et)) (hkt : P.underlying kt = some (.int .i64))
    (ho : w.heap[b]? = some (.map es c)) (hDD : es.toList.map mentry = D) (hD : keysI D = true) :
    ∃ es' c', (Instr.mapUpdate t (.map (some b)) (.int .i64 k) v).run P w = .ok () (setO w b (.map es' c')) ∧ es'.toList.map mentry = mset D k v := by
  subst hDD
  rcases findNow_mget es.toList 0 k hD with ⟨g1, g2, g3⟩ | ⟨u, j, g1, g2, ⟨e, ge, gk⟩, g4⟩
  · refine ⟨es.push { key := .int .i64 k, val := v, born := c }, c + 1, ?_, ?_⟩
    · simp only [Instr.mapUpdate, Sem.run_bind, Sem.run_pure, run_underlying ht, Result.andThen, MapKept.run_getObj_map ho, MapKept.run_checkKey (P := P) (w := w) hkt (k := .int .i64 k) (by trivial), MapKept.run_findKey (P := P) (w := w) hkt g3, MapKept.run_setObj_map _ ho]
      rfl
    · rw [congrFun g2 v]
      simp [mentry]
  · have hes : es[j]? = some e := by simpa using ge
    refine ⟨es.modify j fun e => { e with key := .int .i64 k, val := v }, c, ?_, ?_⟩
    · simp only [Instr.mapUpdate, Sem.run_bind, Sem.run_pure, run_underlying ht, Result.andThen, MapKept.run_getObj_map ho, MapKept.run_checkKey (P := P) (w := w) hkt (k := .int .i64 k) (by trivial), MapKept.run_findKey (P := P) (w := w) hkt g2, Nat.zero_add, hes, Option.map_some, Option.getD_some, gk]
      have hsb : Instr.sameBits 10000 (.int .i64 k) (.int .i64 k) = true := by simp [Instr.sameBits]
      simp [Instr.keyThatStays, hsb, Result.andThen, MapKept.run_setObj_map _ ho, setO]
    · rw [congrFun g4 v]
      apply List.ext_getElem?
      intro i
      simp only [List.getElem?_map, List.getElem?_set, List.length_map, Array.length_toList]
      have hj : j < es.size := (Array.getElem?_eq_some_iff.1 hes).1
      have hmod : (es.modify j fun e => { e with key := .int .i64 k, val := v })[i]? = if j = i then (es[i]?).map (fun e => { e with key := .int .i64 k, val := v }) else es[i]? := Array.getElem?_modify
      rw [Array.getElem?_toList, hmod]
      by_cases hij : j = i
      · subst hij
        rw [if_pos rfl, if_pos rfl, if_pos hj, hes]
        rfl
      · rw [if_neg hij, if_neg hij, Array.getElem?_toList]

/-- the state behind a map's store -/
theorem thaw_rel (hr : Rel Old wi K m S H w) (ht : TRel K w m S N T a) {id : Nat} {b : Blk} (hl : look H id = some b) (hH : noOmH H = true) {es es' : Array MapEntry} {c c' : Nat} (hp : (m id).ph = true) (hq : (m id).cap = 1) (ho : w.heap[(m id).blk]? = some (.map es c))
    {D' : List (Value × Value)} (hD : es'.toList.map mentry = D') {T' : Tp} (hT : omT id D' T = some T') :
    Rel Old wi K m S H (setO w (m id).blk (.map es' c')) ∧ TRel K (setO w (m id).blk (.map es' c')) m S N T' a := by
  obtain ⟨s1, s2, s3⟩ := setO_at (ob := .map es' c') ho
  obtain ⟨_, hK, hO⟩ := hr.om id b hl hp hq
  refine ⟨?_, ht.dn, ht.sz, fun t v' hl' => ?_⟩
  · refine { os := hr.os, tape := hr.tape, output := hr.output, size := by rw [s3]; exact hr.size, old := fun k hk => (s2 k (fun e => hO (e ▸ hk))).trans (hr.old k hk), olt := fun k hk => by rw [s3]; exact hr.olt k hk, oown := hr.oown, om := hr.om, kb := fun k hk => by rw [s3]; exact hr.kb k hk, inS := hr.inS, pin := hr.pin, pinS := hr.pinS, own := fun i bi hi => ?_, inj := hr.inj }
    rcases hr.own i bi hi with h | ⟨h1, hb⟩
    · exact .inl h
    · refine .inr ⟨h1, hb.nk, hb.sz, hb.cap, hb.capm, hb.plv, ?_⟩
      obtain ⟨cur, c1, c2, c3⟩ := hb.ex
      have hne : (m i).blk ≠ (m id).blk := fun e => by rw [e, ho] at c1; cases c1
      refine ⟨cur, (s2 _ hne).trans c1, c2, fun r row hrow => ⟨(c3 r row hrow).1, fun j cv hj => ?_⟩⟩
      obtain ⟨x, hx, hone, hv⟩ := (c3 r row hrow).2 j cv hj
      refine ⟨x, hx, hone, hv.thaw ho s2 ?_⟩
      have hnb := look_all hH hi
      simp only [noOmB, Bool.or_eq_true] at hnb
      rcases hnb with hpl | hrows
      · exact .inr fun i hh => by rw [hpl] at hh; cases hh.2
      · exact .inl (noOmL_get (List.all_eq_true.1 hrows row (List.mem_of_getElem? hrow)) hj)
  · obtain ⟨v, hv, hu⟩ := omT_spec hT hl'
    have hvr := ht.tm t v hv
    rcases omU_spec hu with ⟨rfl, hno⟩ | ⟨D0, rfl, rfl⟩
    · exact hvr.thaw ho s2 (.inl hno)
    · generalize a.tmps.getD t undef = x at hvr
      cases hvr with
      | om _ _ _ es1 c1 b1 hs hp1 hq1 hb1 hk1 ho1 hD1 =>
        subst hb1
        exact .om _ _ _ es' c' _ hs hp1 hq1 rfl hk1 s1 hD
end

section
variable {P : Program} {N n : Nat} {all : Array Oper} {l : List Oper} {G : Tp → Hp → Nat → Prop} {T T' : Tp} {H : Hp} {ty : TypeId} {pos : String} {after : Array Edge} {d : Nat}
theorem q_makeMap {t : TypeId} (hd : Nat.blt d N = true) (h : SQ P N all l G ((d, .om n []) :: T) ((n, ⟨0, 1000003, true, []⟩) :: H) (n + 1)) : SQ P N all (⟨some d, .makeMap t none, ty, pos, after, none⟩ :: l) G T H n :=
  sq_step rfl hd (s_makeMap rfl) h
theorem q_lookup {t kt et : TypeId} {x y : Operand} {id : Nat} {D : List (Value × Value)} {k : Int} {z r : Value} {ok b : Bool} (hd : Nat.blt d N = true) (hx : evalA T x = some (.om id D)) (hy : evalA T y = some (.v (.int .i64 k)))
    (ht : P.underlying t = some (.map kt et)) (hkt : P.underlying kt = some (.int .i64)) (hz : (P.info? et).bind (·.zero) = some z) (hD : keysI D = true) (hb : (mget D k).isSome = b) (hr : (mget D k).getD z = r)
    (h : SQ P N all l G ((d, .v (if ok then .tuple #[r, .bool b] else r)) :: T) H n) : SQ P N all (⟨some d, .lookup t x y ok, ty, pos, after, none⟩ :: l) G T H n :=
  sq_step rfl hd (s_lookup rfl hx hy ht hkt hz hD hb hr) h
/-- one value for an element's tree -/
inductive VV : AV → Value → Prop
  | v (x : Value) : VV (.v x) x
  | agg2 (x y : Value) : VV (.agg [.v x, .v y]) (.agg #[x, y])
theorem VV.eq {K : Nat → Prop} {w : World} {m : Nat → Loc} {S : Nat → Prop} {av : AV} {x y : Value} (h : VV av x) (hv : VR K w m S av y) : y = x := by
  cases h with
  | v => cases hv; rfl
  | agg2 a b =>
    cases hv with
    | agg _ _ xs hl hvv =>
      match xs, hl, hvv with
      | [p, q], _, hvv =>
        have h0 := hvv 0 _ p rfl rfl
        have h1 := hvv 1 _ q rfl rfl
        cases h0; cases h1; rfl
theorem sq_mapPut {o : Oper} {t kt et : TypeId} {x y z : Operand} {id : Nat} {b : Blk} {D D' : List (Value × Value)} {k : Int} {av : AV} {v : Value} (ho : o.op = .mapUpdate t x y z ∨ o.op = .insert t x y z) (hg : o.guard = none) (hd : o.dst = none)
    (hx : evalA T x = some (.om id D)) (hy : evalA T y = some (.v (.int .i64 k))) (hz : evalA T z = some av) (hv : VV av v) (hl : look H id = some b)
    (ht : P.underlying t = some (.map kt et)) (hkt : P.underlying kt = some (.int .i64)) (hD : keysI D = true) (hH : noOmH H = true) (he : mset D k v = D') (hT : omT id D' T = some T') (h : SQ P N all l G T' H n) : SQ P N all (o :: l) G T H n := by
  intro Old wi K m a w Q hr htr hq
  unfold wpList
  rw [if_pos (by simp [Region.wanted, hg])]
  refine .inl ?_
  have hxx := htr.eval hx
  have hyy := htr.eval hy
  have hzz := hv.eq (htr.eval hz)
  generalize hxv : a.eval x = xv at hxx
  generalize hyv : a.eval y = yv at hyy
  cases hyy
  cases hxx with
  | om _ _ _ es c b0 hs hp hqq hbb hk hoo hDD =>
    subst hbb
    obtain ⟨es', c', hrun, hm⟩ := run_mapUpdate (v := v) (k := k) ht hkt hoo hDD hD
    have hrun2 : (execOp a.eval o).run P w = .ok .skip (setO w (m id).blk (.map es' c')) := by
      rcases ho with ho | ho <;> (simp only [execOp, ho, hxv, hyv, hzz, Sem.run_bind, hrun, Result.andThen]; rfl)
    obtain ⟨h1, h2⟩ := thaw_rel hr htr hl hH hp hqq hoo (c' := c') (hm.trans he) hT
    unfold Oper.wp
    rw [hrun2, Oper.upon_skip]
    have e : a.put o.dst undef = a := by rw [hd]; rfl
    rw [e]
    exact h Old wi K m a _ Q h1 h2 hq
theorem q_mapPut {t kt et : TypeId} {x y z : Operand} {id : Nat} {b : Blk} {D D' : List (Value × Value)} {k : Int} {av : AV} {v : Value}
    (hx : evalA T x = some (.om id D)) (hy : evalA T y = some (.v (.int .i64 k))) (hz : evalA T z = some av) (hv : VV av v) (hl : look H id = some b)
    (ht : P.underlying t = some (.map kt et)) (hkt : P.underlying kt = some (.int .i64)) (hD : keysI D = true) (hH : noOmH H = true) (he : mset D k v = D') (hT : omT id D' T = some T') (h : SQ P N all l G T' H n) : SQ P N all (⟨none, .mapUpdate t x y z, ty, pos, after, none⟩ :: l) G T H n :=
  sq_mapPut (.inl rfl) rfl rfl hx hy hz hv hl ht hkt hD hH he hT h
theorem q_mapIns {t kt et : TypeId} {x y z : Operand} {id : Nat} {b : Blk} {D D' : List (Value × Value)} {k : Int} {av : AV} {v : Value}
    (hx : evalA T x = some (.om id D)) (hy : evalA T y = some (.v (.int .i64 k))) (hz : evalA T z = some av) (hv : VV av v) (hl : look H id = some b)
    (ht : P.underlying t = some (.map kt et)) (hkt : P.underlying kt = some (.int .i64)) (hD : keysI D = true) (hH : noOmH H = true) (he : mset D k v = D') (hT : omT id D' T = some T') (h : SQ P N all l G T' H n) : SQ P N all (⟨none, .insert t x y z, ty, pos, after, none⟩ :: l) G T H n :=
  sq_mapPut (.inr rfl) rfl rfl hx hy hz hv hl ht hkt hD hH he hT h
end
theorem VV.val {K : Nat → Prop} {w : World} {m : Nat → Loc} {S : Nat → Prop} {av : AV} {x : Value} (h : VV av x) : VR K w m S av x := by
  cases h with
  | v => exact .v _ _
  | agg2 a b =>
    refine .agg _ _ [a, b] rfl fun j cv y h1 h2 => ?_
    match j with
    | 0 => simp at h1 h2; subst h1 h2; exact .v _ _
    | 1 => simp at h1 h2; subst h1 h2; exact .v _ _
    | j + 2 => simp at h1
theorem Step.vv {P : Program} {o : Oper} {N : Nat} {T : Tp} {H : Hp} {n : Nat} {x : Value} {av : AV} (h : Step P o N T H n (.v x) H n true) (hv : VV av x) : Step P o N T H n av H n true := by
  unfold Step at h ⊢
  refine ⟨h.1, fun Old wi K m S a w hS hr ht next Q hn => h.2 Old wi K m S a w hS hr ht next Q fun r w' m' K' ha => hn r w' m' K' ⟨ha.ag, ha.gk, ha.rel, ?_, ha.kk, ha.fr⟩⟩
  have := ha.vr
  cases this
  exact VV.val hv
theorem Step.vok {P : Program} {o : Oper} {N : Nat} {T : Tp} {H : Hp} {n : Nat} {x : Value} {b : Bool} {av : AV} (h : Step P o N T H n (.v (.tuple #[x, .bool b])) H n true) (hv : VV av x) : Step P o N T H n (.tup [av, .v (.bool b)]) H n true := by
  unfold Step at h ⊢
  refine ⟨h.1, fun Old wi K m S a w hS hr ht next Q hn => h.2 Old wi K m S a w hS hr ht next Q fun r w' m' K' ha => hn r w' m' K' ⟨ha.ag, ha.gk, ha.rel, ?_, ha.kk, ha.fr⟩⟩
  have := ha.vr
  cases this
  refine .tup _ _ [x, .bool b] rfl fun j cv y h1 h2 => ?_
  match j with
  | 0 => simp at h1 h2; subst h1 h2; exact VV.val hv
  | 1 => simp at h1 h2; subst h1 h2; exact .v _ _
  | j + 2 => simp at h1
section
variable {P : Program} {N n : Nat} {all : Array Oper} {l : List Oper} {G : Tp → Hp → Nat → Prop} {T : Tp} {H : Hp} {ty : TypeId} {pos : String} {after : Array Edge} {d : Nat} {o : Oper}
/-- an array's value out of its elements -/
theorem s_buildArr {t : TypeId} {ti : TI} {parts : Array (Nat × Operand)} {ps : List (Nat × AV)} {cs : List AV} {len es : Nat} {ea : Bool} (ho : o.op = .build t parts) (hty : tiOf P t = some ti) (hk : ti.k = .array len es ea)
    (hp : parts.toList.mapM (fun p => (evalA T p.2).map fun v => (p.1, v)) = some ps) (hc : fillA (fun i => some (i * es, es)) (ti.zero.map .v) ps = some cs) : Step P o N T H n (.agg cs) H n true := by
  obtain ⟨i, d, z, hi, hd, hzz, hsz, hagg, hby, hzl, htk⟩ := tiOf_spec hty
  rw [hk] at htk
  obtain ⟨e, ei, d', rfl, hei, hed, hes, hea⟩ := tk_array htk
  refine Step.still fun Old wi K m S a w hr ht => ?_
  obtain ⟨e1, e2⟩ := evals_parts ht _ _ hp
  have hzv : VRl K w m S (ti.zero.map .v) z.cells.toList := by rw [hzl]; exact VRl.map_v _
  obtain ⟨xs, hx, hv⟩ := fill_vr _ ps (parts.toList.map fun p => (p.1, a.eval p.2)) _ cs z.cells hzv hc e1 e2
  refine ⟨.agg xs.toList.toArray, ?_, .agg _ _ _ hv.1 hv.2⟩
  have hparts : (parts.map fun (p : Nat × Operand) => (p.1, a.eval p.2)).toList = parts.toList.map fun p => (p.1, a.eval p.2) := by simp
  have hso : (sizeOf e).run P w = .ok es w := by rw [run_sizeOf w hei, Program.cellsOf, hei, ← hes]; rfl
  simp only [execOp, ho, Instr.build, Sem.run_bind, zeroValue, run_typeInfo w hi, Result.andThen, hzz, Sem.run_pure, run_underlying hd, hso]
  have hx' : Instr.fill (fun i => some (i * es, es)) z.cells (parts.map fun (p : Nat × Operand) => (p.1, a.eval p.2)).toList = some xs := by rw [hparts]; exact hx
  rw [hx']
  simp
theorem q_buildArr {t : TypeId} {parts : Array (Nat × Operand)} {ti : TI} {ps : List (Nat × AV)} {cs : List AV} {len es : Nat} {ea : Bool} (hd : Nat.blt d N = true) (hty : tiOf P t = some ti) (hk0 : ti.k = .array len es ea) (hm : evalP T parts.toList = some ps) (hc0 : fillA (fun i => some (i * es, es)) (ti.zero.map .v) ps = some cs)
    (h : SQ P N all l G ((d, .agg cs) :: T) H n) : SQ P N all (⟨some d, .build t parts, ty, pos, after, none⟩ :: l) G T H n :=
  sq_step rfl hd (s_buildArr rfl hty hk0 (evalP_m hm) hc0) h
end
section
variable {P : Program} {Old : Nat → Prop} {wi : WI} {K : Nat → Prop} {m : Nat → Loc} {S : Nat → Prop} {H : Hp} {w : World} {N n g : Nat} {T : Tp} {Q : Exit → Tp → Hp → Nat → Prop}
/-- the same cells, seen otherwise -/
theorem Rel.reB {id ty sz : Nat} {pl : Bool} {rows rows' : List (List AV)} (hr : Rel Old wi K m S H w) (hl : look H id = some ⟨ty, sz, pl, rows⟩) (hlen : rows'.length = rows.length)
    (hw : ∀ (r : Nat) (row' : List AV), rows'[r]? = some row' → ∃ row, rows[r]? = some row ∧ row'.length = row.length ∧ ∀ (j : Nat) (cv' : AV), row'[j]? = some cv' → ∃ cv, row[j]? = some cv ∧ ∀ x, VR K w m S cv x → VR K w m S cv' x) : Rel Old wi K m S ((id, ⟨ty, sz, false, rows'⟩) :: H) w := by
  have old : ∀ i bi, look ((id, (⟨ty, sz, false, rows'⟩ : Blk)) :: H) i = some bi → ∃ b0, look H i = some b0 ∧ ((i = id ∧ bi = ⟨ty, sz, false, rows'⟩) ∨ bi = b0) := fun i bi h => by
    rw [look_cons] at h
    split at h
    · rename_i he; subst he; simp only [Option.some.injEq] at h; exact ⟨_, hl, .inl ⟨rfl, h.symm⟩⟩
    · exact ⟨bi, h, .inr rfl⟩
  refine { os := hr.os, tape := hr.tape, output := hr.output, size := hr.size, old := hr.old, olt := hr.olt, oown := fun i bi h => ?_, om := fun i bi h => ?_, kb := hr.kb, inS := fun i bi h => ?_, pin := hr.pin, pinS := hr.pinS, own := fun i bi h => ?_, inj := fun i j bi bj hi hj hne => ?_ }
  · obtain ⟨b0, h0, _⟩ := old i bi h; exact hr.oown i b0 h0
  · obtain ⟨b0, h0, hc⟩ := old i bi h
    rcases hc with ⟨rfl, rfl⟩ | rfl
    · exact fun hp hq => hr.om i ⟨ty, sz, pl, rows⟩ hl hp hq
    · exact hr.om i _ h0
  · obtain ⟨b0, h0, _⟩ := old i bi h; exact hr.inS i b0 h0
  · obtain ⟨b0, h0, hc⟩ := old i bi h
    rcases hc with ⟨rfl, rfl⟩ | rfl
    · rcases hr.own i _ hl with ⟨e1, e2⟩ | ⟨hp, hb⟩
      · refine .inl ⟨e1, ?_⟩
        simp only at e2
        rw [e2] at hlen
        exact List.length_eq_zero_iff.1 hlen
      · obtain ⟨cur, c1, c2, c3⟩ := hb.ex
        refine .inr ⟨hp, hb.nk, hb.sz, by have := hb.cap; simp only at this ⊢; rw [hlen]; exact this, hb.capm, (fun h => by cases h), cur, c1, c2, fun r row' hrow => ?_⟩
        obtain ⟨row, hr0, hlen, hcell⟩ := hw r row' hrow
        obtain ⟨g1, g2⟩ := c3 r row hr0
        refine ⟨hlen.trans g1, fun j cv' hj => ?_⟩
        obtain ⟨cv, hj0, hwk⟩ := hcell j cv' hj
        obtain ⟨x, hx, h1, hv⟩ := g2 j cv hj0
        refine ⟨x, hx, h1, (hwk x (hv.mono (fun _ h => h) (fun _ _ => rfl) (fun i hi => hi.1) (fun _ _ => rfl))).mono (fun _ h => h) (fun _ _ => rfl) (fun i hi => ⟨hi, rfl⟩) (fun _ _ => rfl)⟩
    · exact hr.own i _ h0
  · obtain ⟨b1, h1, _⟩ := old i bi hi
    obtain ⟨b2, h2, _⟩ := old j bj hj
    exact hr.inj i j b1 b2 h1 h2 hne
/-- a nil slice in a cell of a block: a slice over a block that is not there yet -/
theorem aw_nilB {c : Code} (id r j ety esz : Nat) {ty sz : Nat} {pl : Bool} {rows rows' : List (List AV)} {row : List AV} (hl : look H id = some ⟨ty, sz, pl, rows⟩) (hne : Nat.beq n id = false) (hrow : rows[r]? = some row) (hj : row[j]? = some (.v (.slice none 0 0))) (he : rows.set r (row.set j (.sl n 0 0)) = rows')
    (h : AW P N g c Q T ((id, ⟨ty, sz, false, rows'⟩) :: (n, ⟨ety, esz, true, []⟩) :: H) (n + 1)) : AW P N g c Q T H n := fun Old wi K m a w hp hr ht => by
  have hn : ¬ (fun i => i < n) n := Nat.lt_irrefl n
  have hph := hr.phantom hn ety esz true
  have hm : ∀ i, i < n → updL m n ⟨0, 0, 0, true⟩ i = m i := fun i hi => updL_ne _ _ (fun e => hn (e ▸ hi))
  have eS : addS (fun i => i < n) n (n + 1) = fun i => i < n + 1 := addS_lt (Nat.le_succ n)
  rw [eS] at hph
  have hl2 : look ((n, (⟨ety, esz, true, []⟩ : Blk)) :: H) id = some ⟨ty, sz, pl, rows⟩ := by
    rw [look_cons, if_neg (fun e => by subst e; rw [Nat.beq_refl] at hne; cases hne)]; exact hl
  subst he
  refine h Old wi K _ a w hp (hph.reB hl2 (by simp) fun q row' hq => ?_) (ht.mono (fun _ h => h) (fun _ _ => rfl) (fun i (hi : i < n) => Nat.lt_succ_of_lt hi) hm)
  rw [List.getElem?_set] at hq
  split at hq
  · rename_i e
    subst e
    split at hq
    · simp only [Option.some.injEq] at hq
      subst hq
      refine ⟨row, hrow, by simp, fun k cv' hk => ?_⟩
      rw [List.getElem?_set] at hk
      split at hk
      · rename_i e
        subst e
        split at hk
        · simp only [Option.some.injEq] at hk
          subst hk
          refine ⟨_, hj, fun x hx => ?_⟩
          cases hx
          exact .sl0 _ _ _ _ (Nat.lt_succ_self n)
        · cases hk
      · exact ⟨cv', hk, fun x hx => hx⟩
    · cases hq
  · exact ⟨row', hq, rfl, fun k cv' hk => ⟨cv', hk, fun x hx => hx⟩⟩
/-- the end of a function that returns two new slices of plain cells -/
theorem fin_mm {t u id id2 len len2 ty ty2 sz sz2 : Nat} {rows rows2 : List (List AV)} (h : look T t = some (.sl id 0 len)) (h2 : look T u = some (.sl id2 0 len2)) (hb : look H id = some ⟨ty, sz, true, rows⟩) (hb2 : look H id2 = some ⟨ty2, sz2, true, rows2⟩) (hne : Nat.beq id id2 = false)
    (hs1 : Nat.beq sz 1000003 = false) (hs2 : Nat.beq sz2 1000003 = false) : FinOk P [.tmp t, .tmp u] (.tup [.sl 0 0 len, .sl 1 0 len2]) [(0, ⟨ty, sz, true, rows⟩), (1, ⟨ty2, sz2, true, rows2⟩)] 2 T H :=
  ⟨⟨.tup [.sl id 0 len, .sl id2 0 len2], fun i => [id, id2].getD i 0, .r2 _ _ _ _ (.tmp _ _ h) (.tmp _ _ h2), by simp only [renA, renL]; rfl, ⟨⟨hb, rfl, rfl⟩, ⟨hb2, rfl, rfl⟩, trivial⟩, by simp [injB, hne]⟩, rfl, rfl, rfl⟩
end
/-- a loop's map -/
theorem lk_om {T : Tp} {ρ : Nat → Nat} {n t id id' : Nat} {D D' : List (Value × Value)} (h : look T t = some (.om id' D')) (hi : id' = ρ id) (e : D' = D) (hn : Nat.blt id n = true) : look T t = some (renA ρ (.om id D)) ∧ idsOk n (.om id D) = true := by
  subst e hi; exact ⟨by rw [h]; simp only [renA], hn⟩
/-- .. and an aggregate of plain values -/
theorem lk_g {T : Tp} {ρ : Nat → Nat} {n t : Nat} {x y : List AV} (h : look T t = some (.agg y)) (e : y = x) (hr : renL ρ x = x) (hi : idsOkL n x = true) : look T t = some (renA ρ (.agg x)) ∧ idsOk n (.agg x) = true := by
  subst e; exact ⟨by rw [h]; simp only [renA, hr], hi⟩
end Go.Proofs.Ytglfcaioapdiaaa.Aw
