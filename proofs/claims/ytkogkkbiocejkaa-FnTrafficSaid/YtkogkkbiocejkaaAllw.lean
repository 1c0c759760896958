/-
  All elements within bounds: contracts of the program's closures and loops, and of the reference's.
-/
import Derived.Test.YtkogkkbiocejkaaSl
namespace Go.Proofs.Ytkogkkbiocejkaa.Al
open Go.RowKit Go.Proofs.Ytkogkkbiocejkaa.Mt Go.Proofs.Ytkogkkbiocejkaa.Wk Go.Proofs.Ytkogkkbiocejkaa.Mm

def bad (zs : List Int) (lo hi : Int) (i : Nat) : Bool := !inB (zs.getD i 0) lo hi
def allB (zs : List Int) (lo hi : Int) : Bool := zs.all fun z => inB z lo hi
theorem allB_iff (zs : List Int) (lo hi : Int) : allB zs lo hi = true ↔ ∀ i, i < zs.length → bad zs lo hi i = false := by
  unfold allB bad
  rw [List.all_eq_true]
  constructor
  · intro h i hi'
    have := h zs[i] (List.getElem_mem _)
    simpa [List.getD_eq_getElem?_getD, List.getElem?_eq_getElem hi'] using this
  · intro h z hz
    obtain ⟨i, hi', rfl⟩ := List.getElem_of_mem hz
    have := h i hi'
    simpa [List.getD_eq_getElem?_getD, List.getElem?_eq_getElem hi'] using this
theorem allB_mem {zs : List Int} {lo hi : Int} (h : allB zs lo hi = true) {i : Nat} (hi' : i < zs.length) : lo ≤ zs.getD i 0 ∧ zs.getD i 0 ≤ hi := by
  have := (allB_iff zs lo hi).1 h i hi'
  exact inB_yes (by simpa [bad] using this)

set_option maxHeartbeats 400000 in
theorem closure_any (x lo hi : Int) (c1 c2 : Nat) (w : World) (h1 : w.cell? ⟨c1, 0, none⟩ = some (.int .i64 lo)) (h2 : w.cell? ⟨c2, 0, none⟩ = some (.int .i64 hi)) :
    Calls Try.prog 65 #[.int .i64 x, .pointer (some ⟨c1, 0, none⟩), .pointer (some ⟨c2, 0, none⟩)] w fun e w' => e = .returned (.bool (!inB x lo hi)) ∧ w = w' := by
  go_enter Try.func65, Try.ntmps65
  go_wp2_with ((go_at_call 44; refine (within_any _ _ _ _).mono ?_; rintro e w' ⟨rfl, rfl⟩))
  go_ret
  exact ⟨rfl, rfl⟩

set_option maxHeartbeats 400000 in
theorem index_any (a : Option Addr) (n cap B : Nat) (zs : List Int) (lo hi : Int) (c1 c2 : Nat) (w : World) (hn : n ≤ 9223372036854775807) (hr : Rd w B 1 a n (ints zs))
    (h1 : w.cell? ⟨c1, 0, none⟩ = some (.int .i64 lo)) (h2 : w.cell? ⟨c2, 0, none⟩ = some (.int .i64 hi)) :
    Calls Try.prog 66 #[.slice a n cap, .func (.func 65) #[] #[.pointer (some ⟨c1, 0, none⟩), .pointer (some ⟨c2, 0, none⟩)]] w fun e w' => e = .returned (.int .i64 (idx (bad zs lo hi) n)) ∧ w = w' := by
  go_enter Try.func66, Try.ntmps66
  go_wp2
  go_loop [5, 8] (fun r i => ∃ k : Nat, k ≤ n ∧ i = .int .i64 (k : Int) ∧ (∀ j, j < k → bad zs lo hi j = false)) (fun _ i => n - (intOf i).toNat)
  case atStart => exact ⟨0, Nat.zero_le _, rfl, fun j hj => absurd hj (by omega)⟩
  case round =>
    obtain ⟨k, hk, rfl, hall⟩ := hrel
    have HA := Lib.hid hall
    clear hall
    by_cases hlt : k < n
    · obtain ⟨b, off, x, rfl, hb, hc, hx⟩ := hr.atH hlt
      cases hin : inB x lo hi
      · have HV : Hid (idx (bad zs lo hi) n = (k : Int)) := idx_some hlt HA.out (by unfold bad; rw [hx.out, hin]; rfl)
        go_wp2_with ((go_at_call 65; refine (closure_any _ _ _ _ _ _ h1 h2).mono ?_; rintro e w' ⟨rfl, rfl⟩))
        go_ret
        exact ⟨ret_int HV.out.symm, rfl⟩
      · go_wp2_with ((go_at_call 65; refine (closure_any _ _ _ _ _ _ h1 h2).mono ?_; rintro e w' ⟨rfl, rfl⟩))
        go_round
        case rel => exact ⟨k + 1, by omega, by go_num, fun j hj => by
            rcases Nat.lt_or_eq_of_le (Nat.lt_succ_iff.1 hj) with h | h
            · exact HA.out j h
            · subst h; unfold bad; rw [hx.out, hin]; rfl⟩
        case measure => simp [intOf]; omega
    · obtain rfl : k = n := by omega
      have HV : Hid (idx (bad zs lo hi) k = -1) := idx_none HA.out
      go_wp2
      go_ret
      exact ⟨ret_int HV.out.symm, rfl⟩


theorem idx_all (zs : List Int) (lo hi : Int) (n : Nat) (hl : zs.length = n) : decide (0 ≤ idx (bad zs lo hi) n) = !allB zs lo hi := by
  rcases idx_cases (bad zs lo hi) n with ⟨k, hk, _, hb, he⟩ | ⟨hall, he⟩
  · have : allB zs lo hi = false := by
      cases h : allB zs lo hi
      · rfl
      · have := (allB_iff zs lo hi).1 h k (by omega)
        rw [hb] at this; cases this
    rw [he, this]; simp
  · have : allB zs lo hi = true := (allB_iff zs lo hi).2 (fun i hi' => hall i (by omega))
    rw [he, this]; rfl

set_option maxHeartbeats 400000 in
theorem contains_any (a : Option Addr) (n cap B : Nat) (zs : List Int) (lo hi : Int) (c1 c2 : Nat) (w : World) (hn : n ≤ 9223372036854775807) (hr : Rd w B 1 a n (ints zs))
    (h1 : w.cell? ⟨c1, 0, none⟩ = some (.int .i64 lo)) (h2 : w.cell? ⟨c2, 0, none⟩ = some (.int .i64 hi)) :
    Calls Try.prog 64 #[.slice a n cap, .func (.func 65) #[] #[.pointer (some ⟨c1, 0, none⟩), .pointer (some ⟨c2, 0, none⟩)]] w fun e w' => e = .returned (.bool (!allB zs lo hi)) ∧ w = w' := by
  have HI := Lib.hid (idx_all zs lo hi n hr.len)
  go_enter Try.func64, Try.ntmps64
  go_wp2_with ((go_at_call 66; refine (index_any _ _ _ _ _ _ _ _ _ _ hn hr h1 h2).mono ?_; rintro e w' ⟨rfl, rfl⟩))
  go_ret
  exact ⟨ret_bool HI.out, rfl⟩

set_option maxHeartbeats 400000 in
theorem allWithin_any (a : Option Addr) (n cap B : Nat) (zs : List Int) (lo hi : Int) (w : World) (hn : n ≤ 9223372036854775807) (hB : B ≤ w.heap.size) (hr : Rd w B 1 a n (ints zs)) :
    Calls Try.prog 59 #[.slice a n cap, .int .i64 lo, .int .i64 hi] w fun e w' => e = .returned (.bool (allB zs lo hi)) ∧ Below w.heap.size w w' := by
  have hW : Below w.heap.size w ((w.alloc (.cells #[.int .i64 lo] 2)).alloc (.cells #[.int .i64 hi] 2)) := ((Below.refl _ _).alloc (Nat.le_refl _) _).alloc (by simp) _
  have hr' := hr.kept (hW.mono hB)
  have h1 : ((w.alloc (.cells #[.int .i64 lo] 2)).alloc (.cells #[.int .i64 hi] 2)).cell? ⟨w.heap.size, 0, none⟩ = some (.int .i64 lo) := by
    rw [World.cell?_alloc_past _ _ _ (by simp), World.cell?_alloc_at _ _ _ _ rfl]; rfl
  have h2 : ((w.alloc (.cells #[.int .i64 lo] 2)).alloc (.cells #[.int .i64 hi] 2)).cell? ⟨w.heap.size + 1, 0, none⟩ = some (.int .i64 hi) := by
    rw [World.cell?_alloc_at _ _ _ _ (by simp)]; rfl
  have hmf : ∀ (fn : Fn) (first cap : Array Value) (w : World), (Instr.makeFunc fn first cap).run Try.prog w = .ok (.func fn first cap) w := fun _ _ _ _ => rfl
  have HW := Lib.hid hW
  clear hW
  go_enter Try.func59, Try.ntmps59
  go_wp2_with ((go_at_call 64; refine (contains_any _ _ _ _ _ _ _ _ _ _ hn hr' h1 h2).mono ?_; rintro e w' ⟨rfl, rfl⟩))
  go_ret
  exact ⟨ret_bool (by simp), HW.out⟩

end Go.Proofs.Ytkogkkbiocejkaa.Al
