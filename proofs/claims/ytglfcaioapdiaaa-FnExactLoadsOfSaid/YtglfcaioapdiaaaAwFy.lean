/-
  What was made anew becomes read only: the moves within a region.
-/
import Derived.Test.YtglfcaioapdiaaaAwL
namespace Go.Proofs.Ytglfcaioapdiaaa.Aw
open Go Go.RowKit
set_option linter.unusedVariables false
set_option linter.unusedSimpArgs false
section
variable {P : Program} {H : Hp} {N n g : Nat} {T : Tp} {all : Array Oper} {l : List Oper} {G : Tp → Hp → Nat → Prop}
theorem sq_wkB (id : Nat) {ty sz : Nat} {pl : Bool} {rows : List (List AV)} (rows' : List (List AV)) (hl : look H id = some ⟨ty, sz, pl, rows⟩) (hw : WkR rows rows') (h : SQ P N all l G T ((id, ⟨ty, sz, false, rows'⟩) :: H) n) : SQ P N all l G T H n := fun Old wi K m a w Q hr ht hq =>
  h Old wi K m a w Q (hr.wkB hl hw) ht hq
end
section
variable {P : Program} {N n n' : Nat} {all : Array Oper} {l : List Oper} {G : Tp → Hp → Nat → Prop} {T : Tp} {H : Hp} {bs ks : List Nat} {i : Nat} {eff : List (Nat × List (Nat × Option Blk))} {ty : TypeId} {pos : String} {after : Array Edge} {d : Nat}
/-- an index into an own slice whose block stands till then -/
theorem e_rdi {x y : Operand} {t e : TypeId} {ti : TI} {es eb id row len : Nat} {ez : List Value} {b : Blk} {k : IntKind} {q : Int} (hd : Nat.blt d N = true) (hx : evalA T x = some (.sl id row len)) (hy : evalA T y = some (.v (.int k q))) (hty : tiOf P t = some ti) (hk0 : ti.k = .slice e es eb ez) (hl : look H id = some b) (hb : b.size = es) (h0 : 0 ≤ q) (h1 : q < len)
    (hk : ks.getD i 0 = 0) (hR : (rdP (ks.drop all.size)).contains (i, id) = true) (h : DE P N all bs ks H G (i + 1) eff l ((d, .ptr id (row + q.toNat) 0) :: T) n) : DE P N all bs ks H G i eff (⟨some d, .indexAddr t x y, ty, pos, after, none⟩ :: l) T n :=
  dr_r rfl hd hk hR hl (fun H n hl => s_index_sl rfl hty hk0 (evalR hx (fun t ht => by subst ht; simp [Oper.looksAt, Op.operands, Call.operands])) hl hb (evalR hy (fun t ht => by subst ht; simp [Oper.looksAt, Op.operands, Call.operands])) h0 h1) h
/-- an alloc that no other operation's order touches -/
theorem e_al3 {t : TypeId} {ti : TI} (hd : Nat.blt d N = true) (hty : tiOf P t = some ti) (hz : Nat.beq ti.zero.length ti.cells = true) (h1 : ti.zero.all (·.oneCell') = true) (hk : ks.getD i 0 = 3)
    (h : DE P N all bs ks H G (i + 1) ((i, [(n, some ⟨t, ti.cells, false, [ti.zero.map .v]⟩)]) :: eff) l ((d, .ptr n 0 0) :: T) (n + 1)) : DE P N all bs ks H G i eff (⟨some d, .alloc t, ty, pos, after, none⟩ :: l) T n :=
  dr_3 rfl hd hk (s_alloc rfl hty (Nat.eq_of_beq_eq_true hz) h1) h
end
theorem WkC.same (cv : AV) : WkC cv cv := .inl rfl
theorem WkC.nil (s : Nat) : WkC (.v (.slice none 0 0)) (.dsl s []) := .inr ⟨s, rfl, rfl⟩
theorem WkR.rep3 {q : Nat} {a b c a' b' c' : AV} (h1 : WkC a a') (h2 : WkC b b') (h3 : WkC c c') : WkR (List.replicate q [a, b, c]) (List.replicate q [a', b', c']) := by
  refine WkR.rep rfl fun j cv' hj => ?_
  match j with
  | 0 => simp at hj; subst hj; exact ⟨a, rfl, h1⟩
  | 1 => simp at hj; subst hj; exact ⟨b, rfl, h2⟩
  | 2 => simp at hj; subst hj; exact ⟨c, rfl, h3⟩
  | j + 3 => simp at hj
theorem WkR.rep1 {q : Nat} {a a' : AV} (h1 : WkC a a') : WkR (List.replicate q [a]) (List.replicate q [a']) := by
  refine WkR.rep rfl fun j cv' hj => ?_
  match j with
  | 0 => simp at hj; subst hj; exact ⟨a, rfl, h1⟩
  | j + 1 => simp at hj
mutual
theorem ren_noOwn (ρ : Nat → Nat) (n : Nat) : ∀ v : AV, noOwn v = true → renA ρ v = v ∧ idsOk n v = true
  | .ptr _ _ _, h => by simp [noOwn] at h
  | .sl _ _ _, h => by simp [noOwn] at h
  | .sx _ _ _ _, h => by simp [noOwn] at h
  | .v _, _ => by simp [renA, idsOk]
  | .dsl _ _, _ => by simp [renA, idsOk]
  | .dptr _, _ => by simp [renA, idsOk]
  | .om _ _, h => by simp [noOwn] at h
  | .emp, _ => by simp [renA, idsOk]
  | .agg cs, h => by simp only [noOwn] at h; have := renL_noOwn ρ n cs h; simp [renA, idsOk, this.1, this.2]
  | .tup cs, h => by simp only [noOwn] at h; have := renL_noOwn ρ n cs h; simp [renA, idsOk, this.1, this.2]
  | .fn _ cs, h => by simp only [noOwn] at h; have := renL_noOwn ρ n cs h; simp [renA, idsOk, this.1, this.2]
theorem renL_noOwn (ρ : Nat → Nat) (n : Nat) : ∀ l : List AV, noOwnL l = true → renL ρ l = l ∧ idsOkL n l = true
  | [], _ => by simp [renL, idsOkL]
  | x :: l, h => by
    simp only [noOwnL, Bool.and_eq_true] at h
    have h1 := ren_noOwn ρ n x h.1
    have h2 := renL_noOwn ρ n l h.2
    simp [renL, idsOkL, h1.1, h1.2, h2.1, h2.2]
end
/-- a loop's block whose cells name no block -/
theorem lknc {H : Hp} {ρ : Nat → Nat} {n i i' ty sz : Nat} {pl : Bool} {rows rows' : List (List AV)} (h : look H i' = some ⟨ty, sz, pl, rows'⟩) (hi : i' = ρ i) (hp : pl = false) (e : rows' = rows) (hc : rows.all noOwnL = true) (hn : Nat.blt i n = true) :
    look H (ρ i) = some (renB ρ ⟨ty, sz, false, rows⟩) ∧ idsOkB n ⟨ty, sz, false, rows⟩ = true ∧ Nat.blt i n = true := by
  subst e hi hp
  refine ⟨?_, ?_, hn⟩
  · rw [h]
    simp only [renB]
    congr 2
    refine (List.map_id _).symm.trans (List.map_congr_left fun r hr => ?_)
    exact (renL_noOwn ρ n r (List.all_eq_true.1 hc r hr)).1.symm
  · simp only [idsOkB]
    exact List.all_eq_true.2 fun r hr => (renL_noOwn ρ n r (List.all_eq_true.1 hc r hr)).2
end Go.Proofs.Ytglfcaioapdiaaa.Aw
