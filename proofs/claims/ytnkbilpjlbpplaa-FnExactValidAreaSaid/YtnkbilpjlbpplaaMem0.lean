/-
  Words for memory: a slice that reads as a list of cells; blocks of the call's own. No function of the program in sight.
-/
import Derived.Test.YtnkbilpjlbpplaaBase0
import Derived.Maps.AppendAt
import Derived.Deep.OwnRows
import Derived.ProofKit
import Derived.OpenShut
namespace Go.Proofs.Ytnkbilpjlbpplaa.Mm
open Go.RowKit Go.Proofs.Ytnkbilpjlbpplaa.Wk

/-- the slice 'a' of n elements, 'size' cells each, reads as the cells xs; it lies below block hi -/
def Rd (w : World) (hi size : Nat) (a : Option Addr) (n : Nat) (xs : List Value) : Prop :=
  xs.length = n * size ∧ (0 < n → ∃ b off, a = some ⟨b, off, none⟩ ∧ b < hi ∧ ∀ j, j < n * size → w.cell? ⟨b, off + j, none⟩ = xs[j]?)

def ints (zs : List Int) : List Value := zs.map (Value.int .i64)
theorem ints_len (zs : List Int) : (ints zs).length = zs.length := by simp [ints]
theorem ints_get (zs : List Int) (k : Nat) (h : k < zs.length) : (ints zs)[k]? = some (.int .i64 (zs.getD k 0)) := by
  simp [ints, List.getElem?_eq_getElem h]
theorem ints_app (xs ys : List Int) : ints (xs ++ ys) = ints xs ++ ints ys := by simp [ints]

section
variable {w w' : World} {hi hi' size n : Nat} {a : Option Addr} {xs : List Value} {zs : List Int}
theorem Rd.kept (h : Rd w hi size a n xs) (hb : Below hi w w') : Rd w' hi size a n xs :=
  ⟨h.1, fun hn => by
    obtain ⟨b, off, e, hlt, hc⟩ := h.2 hn
    exact ⟨b, off, e, hlt, fun j hj => (hb.cell (p := ⟨b, off + j, none⟩) hlt).trans (hc j hj)⟩⟩
theorem Rd.more (h : Rd w hi size a n xs) (hh : hi ≤ hi') : Rd w hi' size a n xs :=
  ⟨h.1, fun hn => by
    obtain ⟨b, off, e, hlt, hc⟩ := h.2 hn
    exact ⟨b, off, e, by omega, hc⟩⟩
theorem Rd.drewN (h : Rd w hi size a n xs) (k : Nat) : Rd (w.drewN k) hi size a n xs := h
theorem Rd.nil (w : World) (hi size : Nat) (a : Option Addr) : Rd w hi size a 0 [] := ⟨by simp, fun h => absurd h (by omega)⟩
theorem Rd.at1 (h : Rd w hi 1 a n (ints zs)) {k : Nat} (hk : k < n) : ∃ b off, a = some ⟨b, off, none⟩ ∧ b < hi ∧ w.cell? ⟨b, off + k, none⟩ = some (.int .i64 (zs.getD k 0)) := by
  obtain ⟨b, off, e, hlt, hc⟩ := h.2 (by omega)
  have hl : zs.length = n := by have := h.1; rw [ints_len] at this; omega
  exact ⟨b, off, e, hlt, by rw [hc k (by omega), ints_get zs k (by omega)]⟩
theorem Rd.atH (h : Rd w hi 1 a n (ints zs)) {k : Nat} (hk : k < n) : ∃ b off u, a = some ⟨b, off, none⟩ ∧ b < hi ∧ w.cell? ⟨b, off + k, none⟩ = some (.int .i64 u) ∧ Hid (zs.getD k 0 = u) := by
  obtain ⟨b, off, e, hb, hc⟩ := h.at1 hk
  exact ⟨b, off, _, e, hb, hc, rfl⟩
theorem Rd.atS {b off : Nat} (h : Rd w hi 1 (some ⟨b, off, none⟩) n (ints zs)) {k : Nat} (hk : k < n) : ∃ u, b < hi ∧ w.cell? ⟨b, off + k, none⟩ = some (.int .i64 u) ∧ Hid (zs.getD k 0 = u) := by
  obtain ⟨b', off', u, e, hb, hc, hu⟩ := h.atH hk
  simp only [Option.some.injEq, Addr.mk.injEq, and_true] at e
  obtain ⟨rfl, rfl⟩ := e
  exact ⟨u, hb, hc, hu⟩
theorem Rd.len (h : Rd w hi 1 a n (ints zs)) : zs.length = n := by have := h.1; rw [ints_len] at this; omega
theorem Rd.of_row {cap : Nat} {z : List Int} (w0 : (a = none ∧ n = 0 ∧ cap = 0 ∧ z = []) ∨ ∃ x, a = some x ∧ n ≤ cap ∧ cap ≤ maxLen ∧ z.length = cap ∧ (∀ i, i < z.length → w.cell? (x.add i) = some (.int .i64 (z.getD i 0))) ∧ ∀ n ∈ z, (Lit.int .i64 n).wf = true) :
    ∃ zs, Rd w w.heap.size 1 a n (ints zs) ∧ n ≤ cap ∧ cap ≤ maxLen ∧ ∀ i, i < n → (Lit.int .i64 (zs.getD i 0)).wf = true := by
  rcases w0 with ⟨rfl, rfl, rfl, rfl⟩ | ⟨x, rfl, h1, h2, h3, h4, h5⟩
  · exact ⟨[], Rd.nil _ _ _ _, by omega, by simp [maxLen], fun i hi => absurd hi (by omega)⟩
  · have hl : (z.take n).length = n := by rw [List.length_take]; omega
    have hg : ∀ i, i < n → (z.take n).getD i 0 = z.getD i 0 := fun i hi => by
      simp [List.getD_eq_getElem?_getD, hi]
    refine ⟨z.take n, ⟨by rw [ints_len, hl]; omega, fun hn => ?_⟩, h1, h2, fun i hi => ?_⟩
    · obtain ⟨b, off, spot⟩ := x
      have hc := h4 0 (by omega)
      have hspot : spot = none := by simpa [Addr.add] using World.cell?_spot hc
      subst hspot
      refine ⟨b, off, rfl, block_lt_of_cell (by simpa [Addr.add] using hc), fun j hj => ?_⟩
      have hj' : j < n := by omega
      rw [← Go.WideShapes.add_plain, h4 j (by omega), ints_get _ j (by rw [hl]; exact hj'), hg j hj']
    · rw [hg i hi]
      exact h5 _ (by rw [List.getD_eq_getElem?_getD, List.getElem?_eq_getElem (by omega)]; exact List.getElem_mem _)
theorem Rd.of_own {base : Nat} {e c : Nat} (h : w.ownsRow base e size (.slice a n c) n xs) : Rd w w.heap.size size a n xs := by
  refine ⟨h.1, fun hn => ?_⟩
  rcases h.2 with ⟨hv, h0⟩ | ⟨g, cap, cur, hv, hg, hh, hnc, hcm, hs, ht⟩
  · omega
  · have e1 : a = some ⟨g, 0, none⟩ := by injection hv
    subst e1
    refine ⟨g, 0, rfl, ?_, fun j hj => ?_⟩
    · rcases Nat.lt_or_ge g w.heap.size with hlt | hge
      · exact hlt
      · rw [Array.getElem?_eq_none hge] at hh; cases hh
    · rw [Nat.zero_add, cell_of_row w g j cur e (0, 0) hh, ← ht, List.getElem?_take, if_pos hj]
      simp
end

/-! ### a block known whole -/
def Blk (w : World) (g : Nat) (t : TypeId) (cs : List Value) : Prop := w.heap[g]? = some (.cells cs.toArray t (0, 0))
section
variable {w w' : World} {g : Nat} {t : TypeId} {cs : List Value}
theorem Blk.lt (h : Blk w g t cs) : g < w.heap.size := by
  rcases Nat.lt_or_ge g w.heap.size with hlt | hge
  · exact hlt
  · unfold Blk at h; rw [Array.getElem?_eq_none hge] at h; cases h
theorem Blk.cell (h : Blk w g t cs) (i : Nat) : w.cell? ⟨g, i, none⟩ = cs[i]? := by
  rw [cell_of_row w g i _ t (0, 0) h]; simp
theorem Blk.frozen (h : Blk w g t cs) (i : Nat) : w.frozen? ⟨g, i, none⟩ = false := frozen_of_row w g i _ t h
theorem Blk.new (w : World) (t : TypeId) (cs : List Value) : Blk (w.alloc (.cells cs.toArray t)) w.heap.size t cs := heap_alloc_new w _
theorem Blk.set_ (h : Blk w g t cs) (i : Nat) (u : Value) : Blk (w.setCell ⟨g, i, none⟩ u) g t (cs.set i u) := by
  unfold Blk at h ⊢
  rw [heap_setCell_same w g i _ t u h]
  simp
theorem Blk.kept (h : Blk w g t cs) {B : Nat} (hb : Below B w w') (hg : g < B) : Blk w' g t cs := (hb.block g hg).trans h
theorem Blk.rd (h : Blk w g t cs) (size n : Nat) (hn : cs.length = n * size) : Rd w w.heap.size size (some ⟨g, 0, none⟩) n cs :=
  ⟨hn, fun _ => ⟨g, 0, rfl, h.lt, fun j _ => by rw [Nat.zero_add, h.cell]⟩⟩
theorem Blk.own (h : Blk w g t cs) (size n base : Nat) (hn : cs.length = n * size) (hb : base ≤ g) (hm : n ≤ maxLen) : w.ownsRow base t size (.slice (some ⟨g, 0, none⟩) n n) n cs :=
  ⟨hn, .inr ⟨g, n, cs.toArray, rfl, hb, h, Nat.le_refl _, hm, by simp [hn], by rw [← hn]; simp⟩⟩
end

/-- only the block g, and what is new, has turned: of a world below g nothing -/
theorem below_of_grown {w w' : World} {v : Value} {B : Nat} (hg : w.grownBy w' v.ownBlock) (hB : B ≤ w.heap.size) (h : ∀ k, v.ownBlock = some k → B ≤ k) : Below B w w' :=
  (Below.refl _ _).grown hg hB h

theorem own_base {w : World} {base e size n : Nat} {v : Value} {xs : List Value} (h : w.ownsRow base e size v n xs) {B : Nat} (hB : B ≤ base) : w.ownsRow B e size v n xs := by
  refine ⟨h.1, ?_⟩
  rcases h.2 with h1 | ⟨g, cap, cur, hv, hg, r⟩
  · exact .inl h1
  · exact .inr ⟨g, cap, cur, hv, by omega, r⟩

/-- the value of an owned row, written out -/
theorem own_form {w : World} {base e size n : Nat} {v : Value} {xs : List Value} (h : w.ownsRow base e size v n xs) :
    ∃ a cap, v = .slice a n cap ∧ n ≤ cap ∧ cap ≤ maxLen := by
  rcases h.2 with ⟨rfl, rfl⟩ | ⟨g, cap, cur, hv, _, _, hnc, hcm, _⟩
  · exact ⟨none, 0, rfl, by omega, by omega⟩
  · exact ⟨_, cap, hv, hnc, hcm⟩

theorem own_len {w : World} {base e n : Nat} {v : Value} {zs : List Int} (h : w.ownsRow base e 1 v n (ints zs)) : zs.length = n := by
  have := h.1; rw [ints_len] at this; omega
theorem own_below {w w' : World} {base e size n B : Nat} {v : Value} {xs : List Value} (h : w.ownsRow base e size v n xs) (hb : Below B w w') (hB : w.heap.size ≤ B) : w'.ownsRow base e size v n xs :=
  h.kept (row := none) ⟨hb.os, hb.tape, hb.output, hb.size, fun k hk _ => hb.block k (by omega)⟩ (by cases hv : v.ownBlock <;> simp)
theorem own_drewN {w : World} {base e size n : Nat} {v : Value} {xs : List Value} (h : w.ownsRow base e size v n xs) (m : Nat) : (w.drewN m).ownsRow base e size v n xs := h
theorem blk_drewN {w : World} {g : Nat} {t : TypeId} {cs : List Value} (h : Blk w g t cs) (m : Nat) : Blk (w.drewN m) g t cs := h
theorem grown_below {w w' : World} {v : Value} {B : Nat} (hg : w.grownBy w' v.ownBlock) (hB : B ≤ w.heap.size) (h : ∀ k, v.ownBlock = some k → B ≤ k) : Below B w w' :=
  (Below.refl _ _).grown hg hB h

/-- nothing that was there has turned: both words -/
def GB (w w' : World) : Prop := Grown w w' ∧ Below w.heap.size w w'
theorem GB.refl (w : World) : GB w w := ⟨Grown.refl _, Below.refl _ _⟩
theorem GB.alloc {w w' : World} (h : GB w w') (c : Array Value) (t : TypeId) : GB w (w'.alloc (.cells c t)) := ⟨h.1.alloc c t, h.2.alloc h.2.size _⟩
theorem GB.drewN {w w' : World} (h : GB w w') (n : Nat) : GB w (w'.drewN n) := ⟨grown_drewN h.1 n, below_drewN h.2 n⟩
theorem GB.trans {a b c : World} (h : GB a b) (k : GB b c) : GB a c := ⟨grown_trans h.1 k.1, h.2.trans (k.2.mono h.2.size)⟩

/-- all cells and marks of a world read as before: rules for the walk -/
theorem cells_kept {W w1 : World} (hb : Below W.heap.size W w1) : (∀ b o, b < W.heap.size → w1.cell? ⟨b, o, none⟩ = W.cell? ⟨b, o, none⟩) ∧ (∀ b o, b < W.heap.size → w1.frozen? ⟨b, o, none⟩ = W.frozen? ⟨b, o, none⟩) :=
  ⟨fun b o h => hb.cell (p := ⟨b, o, none⟩) h, fun b o h => hb.frozen (p := ⟨b, o, none⟩) h⟩

/-- for a region that draws its order: what was there is kept over a call that only makes memory -/
theorem keepB {W0 w0 w1 : World} (hb : Below w0.heap.size w0 w1) (h : (∀ b o, b < W0.heap.size → w0.cell? ⟨b, o, none⟩ = W0.cell? ⟨b, o, none⟩) ∧ Below W0.heap.size W0 w0) :
    (∀ b o, b < W0.heap.size → w1.cell? ⟨b, o, none⟩ = W0.cell? ⟨b, o, none⟩) ∧ Below W0.heap.size W0 w1 :=
  ⟨fun b o hlt => (hb.cell (p := ⟨b, o, none⟩) (Nat.lt_of_lt_of_le hlt h.2.size)).trans (h.1 b o hlt), h.2.trans (hb.mono h.2.size)⟩
theorem keep0 {W0 : World} (h : Below W0.heap.size W0 W0) : (∀ b o, b < W0.heap.size → W0.drew.cell? ⟨b, o, none⟩ = W0.cell? ⟨b, o, none⟩) ∧ Below W0.heap.size W0 W0.drew := ⟨fun _ _ _ => rfl, h.drew⟩

/-! ### cells of blocks that have just been laid -/
theorem al10 (w : World) (c : Array Value) (t : TypeId) (i : Nat) : (w.alloc (.cells c t)).cell? ⟨w.heap.size, i, none⟩ = c[i]? := World.cell?_alloc_at c t _ i rfl
theorem al20 (w : World) (c : Array Value) (t : TypeId) (o : Obj) (i : Nat) : ((w.alloc (.cells c t)).alloc o).cell? ⟨w.heap.size, i, none⟩ = c[i]? := by
  rw [World.cell?_alloc_past _ _ _ (by simp)]; exact al10 w c t i
theorem al21 (w : World) (o : Obj) (c : Array Value) (t : TypeId) (i : Nat) : ((w.alloc o).alloc (.cells c t)).cell? ⟨w.heap.size + 1, i, none⟩ = c[i]? := World.cell?_alloc_at c t _ i (by simp)
theorem al30 (w : World) (c : Array Value) (t : TypeId) (o o' : Obj) (i : Nat) : (((w.alloc (.cells c t)).alloc o).alloc o').cell? ⟨w.heap.size, i, none⟩ = c[i]? := by
  rw [World.cell?_alloc_past _ _ _ (by simp; omega)]; exact al20 w c t o i
theorem al31 (w : World) (o : Obj) (c : Array Value) (t : TypeId) (o' : Obj) (i : Nat) : (((w.alloc o).alloc (.cells c t)).alloc o').cell? ⟨w.heap.size + 1, i, none⟩ = c[i]? := by
  rw [World.cell?_alloc_past _ _ _ (by simp)]; exact al21 w o c t i
theorem al32 (w : World) (o o' : Obj) (c : Array Value) (t : TypeId) (i : Nat) : (((w.alloc o).alloc o').alloc (.cells c t)).cell? ⟨w.heap.size + 1 + 1, i, none⟩ = c[i]? := World.cell?_alloc_at c t _ i (by simp)
theorem fr32 (w : World) (o o' : Obj) (c : Array Value) (t : TypeId) (i : Nat) : (((w.alloc o).alloc o').alloc (.cells c t)).frozen? ⟨w.heap.size + 1 + 1, i, none⟩ = false := World.frozen?_alloc_at c t _ i (by simp)

end Go.Proofs.Ytnkbilpjlbpplaa.Mm
