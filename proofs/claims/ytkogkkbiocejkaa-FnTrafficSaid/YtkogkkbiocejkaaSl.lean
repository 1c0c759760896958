/-
  Slices of int64: copies, comparison, marking, reading marks, and the bounds of all elements: contracts.
-/
import Derived.Test.YtkogkkbiocejkaaMem
import Derived.WalkSpells
namespace Go.Proofs.Ytkogkkbiocejkaa.Sl
open Go.RowKit Go.Proofs.Ytkogkkbiocejkaa.Mt Go.Proofs.Ytkogkkbiocejkaa.Wk Go.Proofs.Ytkogkkbiocejkaa.Mm

theorem info64 : (Try.prog.info? 2).map (fun i => (i.zero, i.size, i.bytes)) = some (some (.int .i64 0), 1, 8) := by kernel_rfl

/-- the cells of a copy after k rounds -/
def mid (zs : List Int) (n k : Nat) : List Value := ints (zs.take k ++ List.replicate (n - k) 0)
theorem mid_len (zs : List Int) (n k : Nat) (h : zs.length = n) (hk : k ≤ n) : (mid zs n k).length = n := by
  simp [mid, ints]; omega
theorem mid_zero (zs : List Int) (n : Nat) : madeCells #[.int .i64 0] n = (mid zs n 0).toArray := by
  have h := toList_madeCells_one (.int .i64 0) n
  have e : (madeCells #[Value.int .i64 0] n).toList = (mid zs n 0) := by rw [h]; simp [mid, ints]
  rw [← e]
theorem mid_full (zs : List Int) (n : Nat) (h : zs.length = n) : mid zs n n = ints zs := by
  unfold mid; rw [← h]; simp
theorem mid_at (zs : List Int) (n k i : Nat) (h : zs.length = n) (hk : k ≤ n) : (mid zs n k)[i]? = if i < k then some (.int .i64 (zs.getD i 0)) else if i < n then some (.int .i64 0) else none := by
  have hl : (List.take k zs).length = k := by rw [List.length_take]; omega
  unfold mid ints
  rw [List.getElem?_map, List.getElem?_append, hl]
  by_cases h1 : i < k
  · rw [if_pos h1, if_pos h1, List.getElem?_take, if_pos h1, List.getElem?_eq_getElem (by omega)]
    simp [List.getElem?_eq_getElem (show i < zs.length by omega)]
  · rw [if_neg h1, if_neg h1, List.getElem?_replicate]
    by_cases h2 : i < n
    · rw [if_pos (by omega), if_pos h2]; rfl
    · rw [if_neg (by omega), if_neg h2]; rfl
theorem mid_step (zs : List Int) (n k : Nat) (h : zs.length = n) (hk : k < n) : (mid zs n k).set k (.int .i64 (zs.getD k 0)) = mid zs n (k + 1) := by
  apply List.ext_getElem?
  intro i
  rw [List.getElem?_set, mid_at zs n k i h (by omega), mid_at zs n (k + 1) i h (by omega), mid_len zs n k h (by omega)]
  by_cases e : k = i
  · subst e
    rw [if_pos rfl, if_pos hk, if_pos (by omega)]
  · rw [if_neg e]
    by_cases h1 : i < k
    · rw [if_pos h1, if_pos (by omega)]
    · rw [if_neg h1, if_neg (show ¬ i < k + 1 by omega)]
theorem mid_get (zs : List Int) (n k : Nat) (h : zs.length = n) (hk : k < n) : (mid zs n k)[k]? = some (.int .i64 0) := by
  rw [mid_at zs n k k h (by omega), if_neg (by omega), if_pos hk]

set_option maxHeartbeats 400000 in
theorem toInt64S_any (a : Option Addr) (n cap hi : Nat) (zs : List Int) (w : World) (hn : n ≤ 1048576) (hh : hi ≤ w.heap.size) (hr : Rd w hi 1 a n (ints zs)) :
    Calls Try.prog 31 #[.slice a n cap] w fun e w' => e = .returned (.slice (some ⟨w.heap.size, 0, none⟩) n n) ∧ Blk w' w.heap.size 2 (ints zs) ∧ Below w.heap.size w w' := by
  have hl := hr.len
  have hmk := run_make_row' (P := Try.prog) 30 2 (.int .i64 0) 8 Try.underlying30 info64 rfl .i64 .i64 n (by omega) (by omega)
  go_enter Try.func31, Try.ntmps31
  go_wp2
  have HB : Blk (w.alloc (.cells (madeCells #[.int .i64 0] n) 2)) w.heap.size 2 (mid zs n 0) := by rw [mid_zero zs n]; exact Blk.new w _ _
  have HW : Below w.heap.size w (w.alloc (.cells (madeCells #[.int .i64 0] n) 2)) := (Below.refl _ _).alloc (Nat.le_refl _) _
  clear hmk
  go_loopw [4] (fun i wr => ∃ k : Nat, k ≤ n ∧ i = .int .i64 (k : Int) ∧ Blk wr w.heap.size 2 (mid zs n k) ∧ Below w.heap.size w wr) (fun i _ => n - (intOf i).toNat)
  case atStart => exact ⟨0, Nat.zero_le _, rfl, HB, HW⟩
  case round =>
    clear HB HW
    obtain ⟨k, hk, rfl, hB, hW⟩ := hrel
    by_cases hlt : k < n
    · obtain ⟨b, off, rfl, hb, hc⟩ := (hr.kept (hW.mono hh)).at1 hlt
      have hc2 : wr.cell? ⟨w.heap.size, k, none⟩ = some (.int .i64 0) := by rw [hB.cell, mid_get zs n k hl hlt]
      have hf2 : wr.frozen? ⟨w.heap.size, k, none⟩ = false := hB.frozen k
      have HB := Lib.hid hB
      have HW := Lib.hid hW
      have HL := Lib.hid hl
      clear hB hW hl
      go_wp2
      go_roundw
      case rel => exact ⟨k + 1, by omega, by go_num, by rw [← mid_step zs n k HL.out hlt]; exact HB.out.set_ k _, HW.out.setCell (Nat.le_refl _) _⟩
      case measure => simp [intOf]; omega
    · obtain rfl : k = n := by omega
      rw [mid_full zs k hl] at hB
      go_wp2
      go_ret
      exact ⟨rfl, hB, hW⟩


/-! ### one number appended to a slice of the call's own -/
theorem app1 {ops : Array Oper} {rest : List Oper} {o : Oper} {a : Act} {Q : Exit → Act → World → Prop} {w : World} (hgd : o.guard = none) (s x : Operand)
    (ho : o.op = .call { callee := .builtin .append, args := #[s, x], argTypes := #[30, 30] })
    (base : Nat) (v : Value) (n : Nat) (zs : List Int) (z : Int) (hs : a.eval s = v) (hx : a.eval x = .slice (some ⟨w.heap.size, 0, none⟩) 1 1)
    (hown : w.ownsRow base 2 1 v n (ints zs)) (hn : n ≤ 1000000000000) (hbase : base ≤ w.heap.size)
    (h : ∀ v' w', w'.ownsRow base 2 1 v' (n + 1) (ints (zs ++ [z])) → Below base w w' → wpList Try.prog ops Q rest (a.put o.dst v') w') :
    wpList Try.prog ops Q (o :: rest) a (w.alloc (.cells #[.int .i64 z] 2)) := by
  obtain ⟨i0, hi, hz0, hz1, hz2⟩ := info_parts info64
  refine wpList_append_own_at _ hgd s x _ ho base 2 i0 (.int .i64 0) 1 8 Try.underlying30 hi hz0 hz1 hz2 rfl (by omega) v n (ints zs) hs (hown.alloc _) ⟨w.heap.size, 0, none⟩ 1 1 [.int .i64 z] hx rfl (cell_one_new _ _ _) (by simp [Value.oneCell']) (by simp only [maxLen]; omega) (by omega) (by simp; omega) ?_
  intro v' w' h1 h2 _ _
  refine h v' w' (by rw [ints_app]; exact h1) (((Below.refl base w).alloc hbase _).grown h2 (by simp; omega) fun k hk => ?_)
  exact (hown.lt k hk).1

/-! ### a result: a slice of the call's own, and a code -/
def Out (w : World) (v : List Int × Int) (e : Ending) (w' : World) : Prop :=
  ∃ a n cap, e = .returned (.tuple #[.slice a n cap, .int .i64 v.2]) ∧ w'.ownsRow w.heap.size 2 1 (.slice a n cap) n (ints v.1) ∧ Below w.heap.size w w'
theorem out_nil {w w' : World} {v : List Int × Int} {c : Int} (h : v = ([], c)) (hb : Below w.heap.size w w') : Out w v (.returned (.tuple #[.slice none 0 0, .int .i64 c])) w' := by
  subst h
  exact ⟨_, 0, _, rfl, World.ownsRow_nil _ _ _ _, hb⟩
theorem out_mk {w w' : World} {v : List Int × Int} {xs : List Int} {c : Int} {r : Value} {n : Nat} (h : v = (xs, c)) (ho : w'.ownsRow w.heap.size 2 1 r n (ints xs)) (hb : Below w.heap.size w w') : Out w v (.returned (.tuple #[r, .int .i64 c])) w' := by
  subst h
  obtain ⟨a, cap, rfl, _, _⟩ := own_form ho
  exact ⟨_, n, _, rfl, ho, hb⟩

/-! ### equality -/
def eqB (xs ys : List Int) : Bool := decide (xs = ys)
theorem eqB_self (xs : List Int) : eqB xs xs = true := by simp [eqB]
theorem eq_of_getD (xs ys : List Int) (h : xs.length = ys.length) (hall : ∀ i, i < xs.length → xs.getD i 0 = ys.getD i 0) : xs = ys := by
  apply List.ext_getElem h
  intro i h1 h2
  have := hall i h1
  simpa [List.getD_eq_getElem?_getD, List.getElem?_eq_getElem h1, List.getElem?_eq_getElem h2] using this

set_option maxHeartbeats 400000 in
theorem eqInt64S_any (a a' : Option Addr) (n n' cap cap' hi hi' : Nat) (xs ys : List Int) (w : World) (hn : n ≤ 9223372036854775807) (hr : Rd w hi 1 a n (ints xs)) (hr' : Rd w hi' 1 a' n' (ints ys)) :
    Calls Try.prog 33 #[.slice a n cap, .slice a' n' cap'] w fun e w' => e = .returned (.bool (eqB xs ys)) ∧ ∃ m, w' = w.drewN m := by
  have hl := hr.len
  have hl' := hr'.len
  by_cases he : n = n'
  · subst he
    have HL := Lib.hid hl
    have HL' := Lib.hid hl'
    clear hl hl'
    have hnn : ((n : Int) != (n : Int)) = false := by simp
    go_enter Try.func33, Try.ntmps33
    go_wp2
    clear hnn
    go_loopw [5] (fun i wr => ∃ k : Nat, k ≤ n ∧ i = .int .i64 (k : Int) ∧ (∀ j, j < k → xs.getD j 0 = ys.getD j 0) ∧ ∃ m, wr = w.drewN m) (fun i _ => n - (intOf i).toNat)
    case atStart => exact ⟨0, Nat.zero_le _, rfl, fun j hj => absurd hj (by omega), 0, rfl⟩
    case round =>
      obtain ⟨k, hk, rfl, hall, m, rfl⟩ := hrel
      have HA := Lib.hid hall
      clear hall
      by_cases hlt : k < n
      · obtain ⟨b, off, x, rfl, hb, hc, hx⟩ := hr.atH hlt
        obtain ⟨b', off', y, rfl, hb', hc', hy⟩ := hr'.atH hlt
        have i0 : (0 : Int) ≤ (k : Int) := by omega
        have i1 : (k : Int) < (n : Int) := by omega
        by_cases hxy : x = y
        · subst hxy
          go_wp2
          go_quiet (fail)
          go_wp2
          go_roundw
          case rel => exact ⟨k + 1, by omega, by go_num, fun j hj => by
            rcases Nat.lt_or_eq_of_le (Nat.lt_succ_iff.1 hj) with h | h
            · exact HA.out j h
            · subst h; rw [hx.out, hy.out], _, rfl⟩
          case measure => simp [intOf]; omega
        · have HF : Hid (eqB xs ys = false) := by
            show _ = _
            unfold eqB
            exact decide_eq_false (fun e => hxy (by rw [← hx.out, ← hy.out, e]))
          have hd : (x != y) = true := by simp [hxy]
          clear hxy
          go_wp2
          go_quiet (fail)
          go_wp2
          go_ret
          exact ⟨ret_bool (HF.out.symm), _, World.drewN_drewN _ _ _⟩
      · obtain rfl : k = n := by omega
        have HE : Hid (eqB xs ys = true) := by
          show _ = _
          have e := eq_of_getD xs ys (by rw [HL.out, HL'.out]) (fun i hi => HA.out i (by rw [HL.out] at hi; exact hi))
          rw [e]; exact eqB_self ys
        go_wp2
        go_ret
        exact ⟨ret_bool (HE.out.symm), _, rfl⟩
  · have HF : Hid (eqB xs ys = false) := by
      show _ = _
      unfold eqB
      exact decide_eq_false (fun e => he (by rw [← hl, ← hl', e]))
    have hd : ((n : Int) != (n' : Int)) = true := by simp; omega
    clear he
    go_enter Try.func33, Try.ntmps33
    go_wp2
    go_ret
    exact ⟨ret_bool (HF.out.symm), 0, rfl⟩

theorem eqInt64S_self (a a' : Option Addr) (n n' cap cap' hi hi' : Nat) (xs : List Int) (w : World) (hn : n ≤ 9223372036854775807) (hr : Rd w hi 1 a n (ints xs)) (hr' : Rd w hi' 1 a' n' (ints xs)) :
    Calls Try.prog 33 #[.slice a n cap, .slice a' n' cap'] w fun e w' => e = .returned (.bool true) ∧ Below w.heap.size w w' :=
  (eqInt64S_any a a' n n' cap cap' hi hi' xs xs w hn hr hr').mono fun _ _ ⟨he, m, hm⟩ => ⟨by rw [he, eqB_self], by rw [hm]; exact below_drewN (Below.refl _ _) m⟩

/-! ### marking -/
def marks (k : Int) (n : Nat) : List Int := (List.range n).map fun (i : Nat) => k + (i : Int)
theorem marks_len (k : Int) (n : Nat) : (marks k n).length = n := by simp [marks]
theorem marks_getD (k : Int) (n i : Nat) (h : i < n) : (marks k n).getD i 0 = k + i := by
  simp [marks, List.getD_eq_getElem?_getD, List.getElem?_map, List.getElem?_range h]

def mkd (zs : List Int) (k : Int) (j : Nat) : List Value := ints (marks k j) ++ (ints zs).drop j
theorem mkd_at (zs : List Int) (k : Int) (j i : Nat) : (mkd zs k j)[i]? = if i < j then some (.int .i64 (k + i)) else (ints zs)[i]? := by
  unfold mkd
  have hl : (ints (marks k j)).length = j := by rw [ints_len, marks_len]
  rw [List.getElem?_append, hl]
  by_cases h : i < j
  · rw [if_pos h, if_pos h, ints_get _ _ (by rw [marks_len]; exact h), marks_getD k j i h]
  · rw [if_neg h, if_neg h, List.getElem?_drop, show j + (i - j) = i from by omega]
theorem mkd_len (zs : List Int) (k : Int) (j : Nat) (hj : j ≤ zs.length) : (mkd zs k j).length = zs.length := by
  simp [mkd, ints_len, marks_len]; omega
theorem mkd_zero (zs : List Int) (k : Int) : mkd zs k 0 = ints zs := by simp [mkd, marks, ints]
theorem mkd_full (zs : List Int) (k : Int) : mkd zs k zs.length = ints (marks k zs.length) := by
  unfold mkd; rw [List.drop_of_length_le (by rw [ints_len]; omega)]; simp
theorem mkd_step (zs : List Int) (k : Int) (j : Nat) (hj : j < zs.length) : (mkd zs k j).set j (.int .i64 (k + j)) = mkd zs k (j + 1) := by
  apply List.ext_getElem?
  intro i
  rw [List.getElem?_set, mkd_at zs k j i, mkd_at zs k (j + 1) i, mkd_len zs k j (by omega)]
  by_cases e : j = i
  · subst e
    rw [if_pos rfl, if_pos hj, if_pos (by omega)]
  · rw [if_neg e]
    by_cases h1 : i < j
    · rw [if_pos h1, if_pos (by omega)]
    · rw [if_neg h1, if_neg (show ¬ i < j + 1 by omega)]
theorem mkd_here (zs : List Int) (k : Int) (j : Nat) (hj : j < zs.length) : (mkd zs k j)[j]? = some (.int .i64 (zs.getD j 0)) := by
  rw [mkd_at zs k j j, if_neg (by omega), ints_get zs j hj]

set_option maxHeartbeats 400000 in
theorem markInt64S_any (a : Option Addr) (n cap base : Nat) (zs : List Int) (k : Int) (w : World) (hn : n ≤ 1048576) (hk0 : 0 ≤ k) (hk1 : k ≤ 1000000000000)
    (ho : w.ownsRow base 2 1 (.slice a n cap) n (ints zs)) :
    Calls Try.prog 36 #[.slice a n cap, .int .i64 k] w fun e w' => e = .returned (.int .i64 (k + n)) ∧ w'.ownsRow base 2 1 (.slice a n cap) n (ints (marks k n)) ∧ w.grownBy w' (Value.slice a n cap).ownBlock := by
  have hl : zs.length = n := by have := ho.1; rw [ints_len] at this; omega
  by_cases h0 : n = 0
  · subst h0
    have e : zs = [] := List.eq_nil_of_length_eq_zero hl
    subst e
    have HO := Lib.hid ho
    clear ho hl
    go_enter Try.func36, Try.ntmps36
    go_wp2
    refine wp_loop_rounds 1 ?_
    rw [rounds_succ]
    go_wp2
    go_ret
    exact ⟨ret_int (by omega), HO.out, World.grownBy.refl _ _⟩
  · obtain ⟨g, cap', cur, hv, hg, _⟩ : ∃ g cap' cur, Value.slice a n cap = .slice (some ⟨g, 0, none⟩) n cap' ∧ base ≤ g ∧ w.heap[g]? = some (.cells cur 2 (0, 0)) := by
      rcases ho.2 with ⟨_, h⟩ | ⟨g, cap', cur, h1, h2, h3, _⟩
      · exact absurd h h0
      · exact ⟨g, cap', cur, h1, h2, h3⟩
    have hv' : a = some ⟨g, 0, none⟩ := by injection hv
    subst hv'
    clear hv
    have HO : Hid (w.ownsRow base 2 1 (.slice (some ⟨g, 0, none⟩) n cap) n (mkd zs k 0)) := by show World.ownsRow _ _ _ _ _ _ _; rw [mkd_zero]; exact ho
    have HL := Lib.hid hl
    clear ho hl h0
    go_enter Try.func36, Try.ntmps36
    go_wp2
    go_loopw [1, 5] (fun q i wr => ∃ j : Nat, j ≤ n ∧ q = .int .i64 (k + j) ∧ i = .int .i64 (j : Int) ∧ wr.ownsRow base 2 1 (.slice (some ⟨g, 0, none⟩) n cap) n (mkd zs k j) ∧ w.grownBy wr (some g)) (fun _ i _ => n - (intOf i).toNat)
    case atStart => exact ⟨0, Nat.zero_le _, by simp, rfl, HO.out, World.grownBy.refl _ _⟩
    case round =>
      obtain ⟨j, hj, rfl, rfl, hO, hG⟩ := hrel
      by_cases hlt : j < n
      · have hc : wr.cell? ⟨g, j, none⟩ = some (.int .i64 (zs.getD j 0)) := by rw [hO.cellAt j (by omega), mkd_here zs k j (by rw [HL.out]; exact hlt)]
        have hf : wr.frozen? ⟨g, j, none⟩ = false := hO.frozenAt j
        have HO' := Lib.hid hO
        have HG := Lib.hid hG
        clear hO hG HO
        go_wp2
        go_roundw
        case rel => exact ⟨j + 1, by omega, by go_num, by go_num, by rw [← mkd_step zs k j (by rw [HL.out]; exact hlt)]; exact (HO'.out.stored j _).1, HG.out.trans (HO'.out.stored j _).2⟩
        case measure => simp [intOf]; omega
      · obtain rfl : j = n := by omega
        have HO' : Hid (wr.ownsRow base 2 1 (.slice (some ⟨g, 0, none⟩) j cap) j (ints (marks k j))) := by
          show World.ownsRow _ _ _ _ _ _ _
          rw [show ints (marks k j) = mkd zs k j from by have := mkd_full zs k; rw [HL.out] at this; exact this.symm]; exact hO
        have HG := Lib.hid hG
        clear hO hG HO
        go_wp2
        go_ret
        exact ⟨rfl, HO'.out, HG.out⟩

set_option maxHeartbeats 400000 in
theorem heldInt64S_any (a : Option Addr) (n cap hi : Nat) (k : Int) (w : World) (hn : n ≤ 1048576) (hk0 : 0 ≤ k) (hk1 : k ≤ 1000000000000) (hr : Rd w hi 1 a n (ints (marks k n))) :
    Calls Try.prog 37 #[.slice a n cap, .int .i64 k] w fun e w' => e = .returned (.int .i64 (k + n)) ∧ w = w' := by
  go_enter Try.func37, Try.ntmps37
  go_wp2
  go_loop [1, 5] (fun q i => ∃ j : Nat, j ≤ n ∧ q = .int .i64 (k + j) ∧ i = .int .i64 (j : Int)) (fun _ i => n - (intOf i).toNat)
  case atStart => exact ⟨0, Nat.zero_le _, by simp, rfl⟩
  case round =>
    obtain ⟨j, hj, rfl, rfl⟩ := hrel
    by_cases hlt : j < n
    · obtain ⟨b, off, x, rfl, hb, hc, hx⟩ := hr.atH hlt
      have hx' : x = k + j := by have := hx.out; rw [marks_getD k n j hlt] at this; exact this.symm
      subst hx'
      have hd : (k + (j : Int) != k + (j : Int)) = false := by simp
      go_wp2
      go_round
      case rel => exact ⟨j + 1, by omega, by go_num, by go_num⟩
      case measure => simp [intOf]; omega
    · obtain rfl : j = n := by omega
      go_wp2
      go_ret
      exact ⟨rfl, rfl⟩

end Go.Proofs.Ytkogkkbiocejkaa.Sl
