/-
  What the law FnStatistics rests on, part 4.
-/
import Derived.Test.YtljpgbgokjiamaaZFnStatistics3
namespace Go.Proofs.Ytljpgbgokjiamaa.So
open Go.Shelf Go.Proofs
def laysSort_ren : Go.Shelf.Ren := ⟨fun | 53 => 35 | 64 => 55 | 63 => 54 | 78 => 68 | 79 => 69 | 70 => 59 | 71 => 60 | 72 => 61 | 73 => 62 | 74 => 63 | 75 => 64 | 59 => 65 | 76 => 66 | 77 => 67 | 88 => 70 | 89 => 71 | 90 => 72 | 91 => 73 | 92 => 74 | 68 => 75 | 96 => 76 | n => n, fun | 22 => 24 | 23 => 2 | 3 => 3 | 51 => 79 | 0 => 0 | 67 => 92 | 69 => 73 | 4 => 4 | 61 => 85 | 60 => 84 | 44 => 89 | 5 => 5 | 9 => 9 | 75 => 94 | 79 => 98 | 83 => 100 | 84 => 101 | n => n, fun | n => n⟩
theorem laysSort : Go.Proofs.SlLaysN.n53 Try.prog laysSort_ren := {
  mixed := by kernel_rfl
  f53 := ⟨Try.f35.name, by decide, Try.func35.trans (congrArg some (by kernel_rfl))⟩
  f59 := ⟨Try.f65.name, by decide, Try.func65.trans (congrArg some (by kernel_rfl))⟩
  f63 := ⟨Try.f54.name, by decide, Try.func54.trans (congrArg some (by kernel_rfl))⟩
  f64 := Try.func55.trans (congrArg some (by kernel_rfl))
  f68 := ⟨Try.f75.name, by decide, Try.func75.trans (congrArg some (by kernel_rfl))⟩
  f70 := ⟨Try.f59.name, by decide, Try.func59.trans (congrArg some (by kernel_rfl))⟩
  f71 := ⟨Try.f60.name, by decide, Try.func60.trans (congrArg some (by kernel_rfl))⟩
  f72 := ⟨Try.f61.name, by decide, Try.func61.trans (congrArg some (by kernel_rfl))⟩
  f73 := ⟨Try.f62.name, by decide, Try.func62.trans (congrArg some (by kernel_rfl))⟩
  f74 := ⟨Try.f63.name, by decide, Try.func63.trans (congrArg some (by kernel_rfl))⟩
  f75 := ⟨Try.f64.name, by decide, Try.func64.trans (congrArg some (by kernel_rfl))⟩
  f76 := ⟨Try.f66.name, by decide, Try.func66.trans (congrArg some (by kernel_rfl))⟩
  f77 := ⟨Try.f67.name, by decide, Try.func67.trans (congrArg some (by kernel_rfl))⟩
  f78 := Try.func68.trans (congrArg some (by kernel_rfl))
  f79 := Try.func69.trans (congrArg some (by kernel_rfl))
  f88 := ⟨Try.f70.name, by decide, Try.func70.trans (congrArg some (by kernel_rfl))⟩
  f89 := Try.func71.trans (congrArg some (by kernel_rfl))
  f90 := Try.func72.trans (congrArg some (by kernel_rfl))
  f91 := ⟨Try.f73.name, by decide, Try.func73.trans (congrArg some (by kernel_rfl))⟩
  f92 := ⟨Try.f74.name, by decide, Try.func74.trans (congrArg some (by kernel_rfl))⟩
  f96 := ⟨Try.f76.name, by decide, Try.func76.trans (congrArg some (by kernel_rfl))⟩
  t0 := Try.underlying0
  a0 := Try.isAgg0
  z0 := Try.sizeOf0
  v0 := Try.zeroValue0
  t3 := Try.underlying3
  a3 := Try.isAgg3
  z3 := Try.sizeOf3
  v3 := Try.zeroValue3
  t4 := Try.underlying4
  a4 := Try.isAgg4
  z4 := Try.sizeOf4
  v4 := Try.zeroValue4
  t5 := Try.underlying5
  a5 := Try.isAgg5
  z5 := Try.sizeOf5
  v5 := Try.zeroValue5
  t9 := Try.underlying9
  a9 := Try.isAgg9
  z9 := Try.sizeOf9
  v9 := Try.zeroValue9
  t22 := Try.underlying24
  a22 := Try.isAgg24
  z22 := Try.sizeOf24
  v22 := Try.zeroValue24
  t23 := Try.underlying2
  a23 := Try.isAgg2
  z23 := Try.sizeOf2
  v23 := Try.zeroValue2
  t44 := Try.underlying89
  a44 := Try.isAgg89
  z44 := Try.sizeOf89
  v44 := Try.zeroValue89
  t51 := Try.underlying79
  a51 := Try.isAgg79
  z51 := Try.sizeOf79
  v51 := Try.zeroValue79
  t60 := Try.underlying84
  a60 := Try.isAgg84
  z60 := Try.sizeOf84
  v60 := Try.zeroValue84
  t61 := Try.underlying85
  a61 := Try.isAgg85
  z61 := Try.sizeOf85
  v61 := Try.zeroValue85
  t67 := Try.underlying92
  a67 := Try.isAgg92
  z67 := Try.sizeOf92
  v67 := Try.zeroValue92
  t69 := Try.underlying73
  a69 := Try.isAgg73
  z69 := Try.sizeOf73
  v69 := Try.zeroValue73
  t75 := Try.underlying94
  a75 := Try.isAgg94
  z75 := Try.sizeOf94
  v75 := Try.zeroValue94
  t79 := Try.underlying98
  a79 := Try.isAgg98
  z79 := Try.sizeOf98
  v79 := Try.zeroValue98
  t83 := Try.underlying100
  a83 := Try.isAgg100
  z83 := Try.sizeOf100
  v83 := Try.zeroValue100
  t84 := Try.underlying101
  a84 := Try.isAgg101
  z84 := Try.sizeOf101
  v84 := Try.zeroValue101 }
open Go.RowKit Go.Lib Go.Sort in
theorem slices_Sort_int (blk off cap : Nat) (zs : List Int) (w : World) (hH : Holds (Value.int .i64) w blk off zs.toArray) (hblk : blk < w.heap.size) (hsz : zs.length < 4611686018427387904) :
    Calls Try.prog 35 #[.slice (some ⟨blk, off, none⟩) zs.length cap] w fun e w' =>
      e = .returned (.tuple #[]) ∧ ∃ n os, w' = grow (putRow (Value.int .i64) (Sort.ahead w n) blk off (zs.mergeSort fun x y => decide (x ≤ y)).toArray) os := AnyG.slices_Sort_int laysSort blk off cap zs w hH hblk hsz
open Go.RowKit Go.Lib Go.Sort in
theorem slices_Sort_int_none (p : Option Addr) (cap : Nat) (w : World) :
    Calls Try.prog 35 #[.slice p 0 cap] w fun e w' => e = .returned (.tuple #[]) ∧ w' = w := AnyG.slices_Sort_int_none laysSort p cap w
def laysRev_ren : Go.Shelf.Ren := ⟨fun | 35 => 43 | n => n, fun | 22 => 24 | 23 => 2 | 3 => 3 | 4 => 4 | 0 => 0 | n => n, fun | n => n⟩
theorem laysRev : Go.Proofs.SlLaysE.n35 Try.prog laysRev_ren := {
  mixed := by kernel_rfl
  f35 := ⟨Try.f43.name, by decide, Try.func43.trans (congrArg some (by kernel_rfl))⟩
  t0 := Try.underlying0
  a0 := Try.isAgg0
  z0 := Try.sizeOf0
  v0 := Try.zeroValue0
  t3 := Try.underlying3
  a3 := Try.isAgg3
  z3 := Try.sizeOf3
  v3 := Try.zeroValue3
  t4 := Try.underlying4
  a4 := Try.isAgg4
  z4 := Try.sizeOf4
  v4 := Try.zeroValue4
  t22 := Try.underlying24
  a22 := Try.isAgg24
  z22 := Try.sizeOf24
  v22 := Try.zeroValue24
  a23 := Try.isAgg2
  z23 := Try.sizeOf2 }
open Go.RowKit Go.Lib Go.Sort in
theorem slices_Reverse_arr {α : Type} [Inhabited α] (enc : α → Value) (h1 : OneCell enc) (blk off cap : Nat) (d : Array α) (w : World) (hH : Holds enc w blk off d) (hsz : d.size ≤ 9223372036854775807) :
    Calls Try.prog 43 #[.slice (some ⟨blk, off, none⟩) d.size cap] w fun e w' => e = .returned (.tuple #[]) ∧ ∃ n, w' = putRow enc (Sort.ahead w n) blk off d.reverse := AnyE.slices_Reverse_arr laysRev enc h1 blk off cap d w hH hsz
end Go.Proofs.Ytljpgbgokjiamaa.So

namespace Go.Proofs.Ytljpgbgokjiamaa.Bk
open Go Go.RowKit Go.Proofs.Ytljpgbgokjiamaa.Aw
set_option linter.unusedSimpArgs false
set_option linter.unusedVariables false
attribute [local irreducible] AW SQ Step RO RC DE Thn InB
def inB (n lo hi : Int) : Bool := decide (lo ≤ n) && decide (n ≤ hi)
set_option maxHeartbeats 4000000 in
theorem within_ro (n lo hi : Int) (k : Nat) : RO Try.prog 32 [.v (.int .i64 n), .v (.int .i64 lo), .v (.int .i64 hi)] k (.v (.bool (inB n lo hi))) [] k := by
  refine RO.ofv' Try.func32 Try.ntmps32 rfl (goFn_of Try.func32 rfl (by kernel_rfl)) rfl rfl ?_
  ((repeat' (first
    | (show SQ _ _ _ _ _ _ _ _; first | apply sq_nil | (apply q_move; exact rfl; exact rfl) | (apply q_assign; exact rfl; exact rfl) | (apply q_pick_t; exact rfl; exact rfl; exact rfl; exact (by first | assumption | exact rfl)) | (apply q_pick_f; exact rfl; exact rfl; exact rfl; exact (by first | assumption | exact rfl)) | (apply q_leq; exact rfl; exact rfl; exact rfl) | (apply q_geq; exact rfl; exact rfl; exact rfl) | (apply q_g; exact rfl; exact rfl; exact rfl; exact (by assumption)) | (apply q_s; exact rfl; exact rfl; exact rfl; exact (by assumption); exact rfl))
    | (show SQ _ _ _ _ _ _ _ _; apply q_gs; exact rfl; exact rfl; exact rfl; exact rfl; all_goals intro h)
    | (show AW _ _ _ _ _ _ _ _; first | refine aw_region ?_ | (refine aw_seqk ?_; intro K hK) | refine aw_ret ?_)
    | refine thn_n ?_
    | (refine hK _ _ _ ?_; clear hK K))); all_goals (repeat (clear hK K)))
  all_goals refine fin_r (fin_b rfl ?_)
  all_goals simp_all [inB]
  all_goals (intros; omega)
end Go.Proofs.Ytljpgbgokjiamaa.Bk

namespace Go.Proofs.Ytljpgbgokjiamaa.Bk
open Go Go.RowKit Go.Proofs.Ytljpgbgokjiamaa.Aw
set_option linter.unusedSimpArgs false
set_option linter.unusedVariables false
attribute [local irreducible] AW SQ Step RO RC DE Thn InB
def szB (n : Nat) (z : Int) : Int := if z - n < 0 then -1 else z - n
end Go.Proofs.Ytljpgbgokjiamaa.Bk

namespace Go.Proofs.Ytljpgbgokjiamaa.Bk
open Go Go.RowKit Go.Proofs.Ytljpgbgokjiamaa.Aw
set_option linter.unusedSimpArgs false
set_option linter.unusedVariables false
attribute [local irreducible] AW SQ Step RO RC DE Thn InB
def inL (x : Int) : List AV := [.v (.int .i64 x)]
theorem inL_eq (x : Int) : inL x = [.v (.int .i64 x)] := rfl
def up (z : Int) (i : Nat) : Int := z + (i : Int)
end Go.Proofs.Ytljpgbgokjiamaa.Bk

namespace Go.Proofs.Ytljpgbgokjiamaa.So
open Go Go.RowKit Go.Proofs.Ytljpgbgokjiamaa.Aw Go.Proofs.Ytljpgbgokjiamaa.Bk
set_option linter.unusedSimpArgs false
set_option linter.unusedVariables false
def srt (xs : List Int) : List Int := xs.mergeSort fun x y => decide (x ≤ y)
theorem srt_len (xs : List Int) : (srt xs).length = xs.length := List.length_mergeSort _
set_option maxHeartbeats 4000000 in
theorem Sort_rc (b : Nat) (xs : List Int) (hn : xs.length ≤ 1048576) (k : Nat) : RC Try.prog 35 [.sl b 0 xs.length] [(b, ⟨2, 1, true, xs.map inL⟩)] k (.tup []) [(b, some ⟨2, 1, true, (srt xs).map inL⟩)] k := by
  refine ⟨goFn_of Try.func35 rfl (by kernel_rfl), Nat.le_refl _, fun i ob h => .inl ?_, fun K m S w vs hk hS hin hown hinj hom _ _ hv => ?_⟩
  · rw [lkE_cons] at h
    split at h
    · rename_i e; subst e; rw [look_cons, if_pos rfl]; rfl
    · simp [lkE] at h
  have hl : Aw.look [(b, (⟨2, 1, true, xs.map inL⟩ : Blk))] b = some ⟨2, 1, true, xs.map inL⟩ := by rw [look_cons, if_pos rfl]
  have one : ∀ {B : Blk} {i : Nat} {c : Blk}, Aw.look [(b, B)] i = some c → i = b ∧ c = B := fun h => by
    rw [look_cons] at h
    split at h
    · rename_i e; cases h; exact ⟨e.symm, rfl⟩
    · simp [look_nil] at h
  have ovE : ∀ {i : Nat} {c : Blk}, Aw.look (ovr [(b, some (⟨2, 1, true, (srt xs).map inL⟩ : Blk))] [(b, (⟨2, 1, true, xs.map inL⟩ : Blk))]) i = some c → i = b ∧ c = ⟨2, 1, true, (srt xs).map inL⟩ := fun {i c} h => by
    rw [look_ovr, lkE_cons] at h
    split at h
    · rename_i e; cases h; exact ⟨e.symm, rfl⟩
    · rename_i e
      simp only [lkE, Option.getD_none] at h
      exact absurd (one h).1 (fun x => e x.symm)
  obtain ⟨hvl, hvv⟩ := hv
  obtain ⟨x, rfl⟩ : ∃ x, vs = [x] := by
    match vs, hvl with
    | [x], _ => exact ⟨x, rfl⟩
  have hx := hvv 0 _ x rfl rfl
  generalize hnn : xs.length = nn at hx
  have post : ∀ w', w.grownBy w' (if (m b).ph = false then some (m b).blk else none) → OB K w' m (addS S k k) b ⟨2, 1, true, (srt xs).map inL⟩ → PostC [(b, (⟨2, 1, true, xs.map inL⟩ : Blk))] [(b, some ⟨2, 1, true, (srt xs).map inL⟩)] K m S w k k (.tup []) (.tuple #[]) w' m K := fun w' hg ho =>
    { ag := fun _ _ => rfl, os := hg.os, tape := hg.tape, output := hg.output, size := hg.size
      keep := fun j hj hne => hg.block j hj (fun e => by
        split at e
        · rename_i hp; simp only [Option.some.injEq] at e; exact hne b _ hl hp e.symm
        · cases e)
      gk := fun _ h => h, gk2 := fun _ h => .inl h, kb := fun j h => Nat.lt_of_lt_of_le (hk j h) hg.size
      vr := .tup _ [] [] rfl (fun j cv y h => by simp at h)
      loc := fun i c h hp => by obtain ⟨rfl, rfl⟩ := ovE h; exact .inr ⟨i, _, hl, hp, rfl⟩
      om := fun i c h hp hq => by obtain ⟨rfl, rfl⟩ := ovE h; have := hom i _ hl hp hq; cases this
      own := fun i c h => by obtain ⟨rfl, rfl⟩ := ovE h; exact ho
      inj := fun i j bi bj h1 h2 hne => by obtain ⟨rfl, _⟩ := ovE h1; obtain ⟨rfl, _⟩ := ovE h2; exact absurd rfl hne }
  have hsl := srt_len xs
  cases hx with
  | sl0 _ _ _ ad hSb =>
    have h0 : xs = [] := List.length_eq_zero_iff.1 hnn
    have h1 : srt xs = [] := List.length_eq_zero_iff.1 (by rw [hsl, hnn])
    refine (slices_Sort_int_none ad 0 w).mono ?_
    rintro e w' ⟨rfl, rfl⟩
    refine ⟨_, m, K, rfl, post _ ⟨rfl, rfl, rfl, Nat.le_refl _, fun _ _ _ => rfl⟩ ?_⟩
    have := hown b _ hl
    rw [h0] at this
    rw [h1]
    exact this.mono (fun _ _ => rfl) (fun _ _ => rfl) (fun i h => .inl h) (fun _ _ => rfl) (hin b _ hl)
  | sl _ _ _ _ o c hSb hph ho hc =>
    subst hnn
    rcases hown b _ hl with ⟨h, _⟩ | ⟨_, hB⟩
    · rw [hph] at h; cases h
    obtain ⟨cur, g1, g2, g3⟩ := hB.ex
    have o0 : o = 0 := by rw [ho, Nat.zero_mul]
    subst o0
    have hcell : ∀ j, (hj : j < xs.length) → cur[j]? = some (.int .i64 xs[j]) := fun j hj => by
      obtain ⟨_, q⟩ := g3 j (inL xs[j]) (by simp [hj])
      obtain ⟨y, y1, _, y3⟩ := q 0 (.v (.int .i64 xs[j])) rfl
      cases y3
      simpa using y1
    have hcap := hB.cap
    have hszz := hB.sz
    simp only [List.length_map, Nat.mul_one] at hcap g2 hszz
    have hH : Sort.Holds (Value.int .i64) w (m b).blk 0 xs.toArray := fun j hj => by
      have hj : j < xs.length := by simpa using hj
      refine ⟨?_, by simp [World.frozen?, g1]⟩
      have := hcell j hj
      simp only [World.cell?, g1, Nat.zero_add, Option.isSome_none, Bool.false_eq_true, if_false]
      rw [this]
      simp [getElem!_pos, hj]
    refine (slices_Sort_int (m b).blk 0 c xs w hH hB.lt_size (by omega)).mono ?_
    rintro e w' ⟨rfl, q, os, rfl⟩
    refine ⟨_, m, K, rfl, post _ (by rw [if_pos hph]; exact grownBy_sortedI _) (.inr ⟨hph, ?_⟩)⟩
    have hb' := heap_sortedI (n := q) (os := os) (srt xs).toArray g1
    refine ⟨hB.nk, hB.sz, by simpa [hsl] using hcap, hB.capm, fun _ r row hr j cv hj => ?_, _, hb', by simp [Sort.putCells, g2], fun r row hr => ?_⟩
    · rw [List.getElem?_map] at hr
      cases hq : (srt xs)[r]? with
      | none => rw [hq] at hr; cases hr
      | some z =>
        rw [hq] at hr; cases hr
        match j, hj with
        | 0, hj => cases hj; rfl
    · rw [List.getElem?_map] at hr
      cases hq : (srt xs)[r]? with
      | none => rw [hq] at hr; cases hr
      | some z =>
        rw [hq] at hr; cases hr
        refine ⟨rfl, fun j cv hj => ?_⟩
        match j, hj with
        | 0, hj =>
          cases hj
          have hr2 : r < (srt xs).length := (List.getElem?_eq_some_iff.1 hq).1
          refine ⟨.int .i64 z, ?_, rfl, .v _ _⟩
          have hr3 : r < cur.size := by omega
          have hz : (srt xs)[r] = z := (List.getElem?_eq_some_iff.1 hq).2
          simp [Sort.putCells, Array.getElem?_mapIdx, hr2, hr3, hz]
end Go.Proofs.Ytljpgbgokjiamaa.So

namespace Go.Proofs.Ytljpgbgokjiamaa.So
open Go Go.RowKit Go.Proofs.Ytljpgbgokjiamaa.Aw Go.Proofs.Ytljpgbgokjiamaa.Bk
set_option linter.unusedSimpArgs false
set_option linter.unusedVariables false
set_option maxHeartbeats 4000000 in
theorem Reverse_rc (b : Nat) (xs : List Int) (h0 : 1 ≤ xs.length) (hn : xs.length ≤ 1048576) (k : Nat) : RC Try.prog 43 [.sl b 0 xs.length] [(b, ⟨2, 1, true, xs.map inL⟩)] k (.tup []) [(b, some ⟨2, 1, true, xs.reverse.map inL⟩)] k := by
  refine ⟨goFn_of Try.func43 rfl (by kernel_rfl), Nat.le_refl _, fun i ob h => .inl ?_, fun K m S w vs hk hS hin hown hinj hom _ _ hv => ?_⟩
  · rw [lkE_cons] at h
    split at h
    · rename_i e; subst e; rw [look_cons, if_pos rfl]; rfl
    · simp [lkE] at h
  have hl : Aw.look [(b, (⟨2, 1, true, xs.map inL⟩ : Blk))] b = some ⟨2, 1, true, xs.map inL⟩ := by rw [look_cons, if_pos rfl]
  have one : ∀ {B : Blk} {i : Nat} {c : Blk}, Aw.look [(b, B)] i = some c → i = b ∧ c = B := fun h => by
    rw [look_cons] at h
    split at h
    · rename_i e; cases h; exact ⟨e.symm, rfl⟩
    · simp [look_nil] at h
  have ovE : ∀ {i : Nat} {c : Blk}, Aw.look (ovr [(b, some (⟨2, 1, true, xs.reverse.map inL⟩ : Blk))] [(b, (⟨2, 1, true, xs.map inL⟩ : Blk))]) i = some c → i = b ∧ c = ⟨2, 1, true, xs.reverse.map inL⟩ := fun {i c} h => by
    rw [look_ovr, lkE_cons] at h
    split at h
    · rename_i e; cases h; exact ⟨e.symm, rfl⟩
    · rename_i e
      simp only [lkE, Option.getD_none] at h
      exact absurd (one h).1 (fun x => e x.symm)
  obtain ⟨hvl, hvv⟩ := hv
  obtain ⟨x, rfl⟩ : ∃ x, vs = [x] := by
    match vs, hvl with
    | [x], _ => exact ⟨x, rfl⟩
  have hx := hvv 0 _ x rfl rfl
  generalize hnn : xs.length = nn at hx
  have post : ∀ w', w.grownBy w' (if (m b).ph = false then some (m b).blk else none) → OB K w' m (addS S k k) b ⟨2, 1, true, xs.reverse.map inL⟩ → PostC [(b, (⟨2, 1, true, xs.map inL⟩ : Blk))] [(b, some ⟨2, 1, true, xs.reverse.map inL⟩)] K m S w k k (.tup []) (.tuple #[]) w' m K := fun w' hg ho =>
    { ag := fun _ _ => rfl, os := hg.os, tape := hg.tape, output := hg.output, size := hg.size
      keep := fun j hj hne => hg.block j hj (fun e => by
        split at e
        · rename_i hp; simp only [Option.some.injEq] at e; exact hne b _ hl hp e.symm
        · cases e)
      gk := fun _ h => h, gk2 := fun _ h => .inl h, kb := fun j h => Nat.lt_of_lt_of_le (hk j h) hg.size
      vr := .tup _ [] [] rfl (fun j cv y h => by simp at h)
      loc := fun i c h hp => by obtain ⟨rfl, rfl⟩ := ovE h; exact .inr ⟨i, _, hl, hp, rfl⟩
      om := fun i c h hp hq => by obtain ⟨rfl, rfl⟩ := ovE h; have := hom i _ hl hp hq; cases this
      own := fun i c h => by obtain ⟨rfl, rfl⟩ := ovE h; exact ho
      inj := fun i j bi bj h1 h2 hne => by obtain ⟨rfl, _⟩ := ovE h1; obtain ⟨rfl, _⟩ := ovE h2; exact absurd rfl hne }
  have hsl : xs.reverse.length = xs.length := List.length_reverse
  generalize hys : xs.reverse = ys at *
  cases hx with
  | sl0 _ _ _ ad hSb =>
    omega
  | sl _ _ _ _ o c hSb hph ho hc =>
    subst hnn
    rcases hown b _ hl with ⟨h, _⟩ | ⟨_, hB⟩
    · rw [hph] at h; cases h
    obtain ⟨cur, g1, g2, g3⟩ := hB.ex
    have o0 : o = 0 := by rw [ho, Nat.zero_mul]
    subst o0
    have hcell : ∀ j, (hj : j < xs.length) → cur[j]? = some (.int .i64 xs[j]) := fun j hj => by
      obtain ⟨_, q⟩ := g3 j (inL xs[j]) (by simp [hj])
      obtain ⟨y, y1, _, y3⟩ := q 0 (.v (.int .i64 xs[j])) rfl
      cases y3
      simpa using y1
    have hcap := hB.cap
    have hszz := hB.sz
    simp only [List.length_map, Nat.mul_one] at hcap g2 hszz
    have hH : Sort.Holds (Value.int .i64) w (m b).blk 0 xs.toArray := fun j hj => by
      have hj : j < xs.length := by simpa using hj
      refine ⟨?_, by simp [World.frozen?, g1]⟩
      have := hcell j hj
      simp only [World.cell?, g1, Nat.zero_add, Option.isSome_none, Bool.false_eq_true, if_false]
      rw [this]
      simp [getElem!_pos, hj]
    have hR := slices_Reverse_arr (Value.int .i64) (fun _ => rfl) (m b).blk 0 c xs.toArray w hH (by simp; omega)
    have hsz : xs.toArray.size = xs.length := by simp
    rw [hsz] at hR
    refine hR.mono ?_
    rintro e w' ⟨rfl, q, hq⟩
    have eg : ∀ u : World, Sort.grow u #[] = u := fun u => by unfold Sort.grow; rw [Array.append_empty]
    obtain ⟨os, hq⟩ : ∃ os, w' = Sort.grow (Sort.putRow (Value.int .i64) (Sort.ahead w q) (m b).blk 0 ys.toArray) os := ⟨#[], by rw [hq, eg, List.reverse_toArray, hys]⟩
    subst hq
    refine ⟨_, m, K, rfl, post _ (by rw [if_pos hph]; exact grownBy_sortedI _) (.inr ⟨hph, ?_⟩)⟩
    have hb' := heap_sortedI (n := q) (os := os) ys.toArray g1
    refine ⟨hB.nk, hB.sz, by simpa [hsl] using hcap, hB.capm, fun _ r row hr j cv hj => ?_, _, hb', by simp [Sort.putCells, g2], fun r row hr => ?_⟩
    · rw [List.getElem?_map] at hr
      cases hq : ys[r]? with
      | none => rw [hq] at hr; cases hr
      | some z =>
        rw [hq] at hr; cases hr
        match j, hj with
        | 0, hj => cases hj; rfl
    · rw [List.getElem?_map] at hr
      cases hq : ys[r]? with
      | none => rw [hq] at hr; cases hr
      | some z =>
        rw [hq] at hr; cases hr
        refine ⟨rfl, fun j cv hj => ?_⟩
        match j, hj with
        | 0, hj =>
          cases hj
          have hr2 : r < ys.length := (List.getElem?_eq_some_iff.1 hq).1
          refine ⟨.int .i64 z, ?_, rfl, .v _ _⟩
          have hr3 : r < cur.size := by omega
          have hz : ys[r] = z := (List.getElem?_eq_some_iff.1 hq).2
          simp [Sort.putCells, Array.getElem?_mapIdx, hr2, hr3, hz]
end Go.Proofs.Ytljpgbgokjiamaa.So

namespace Go.Proofs.Ytljpgbgokjiamaa.St
open Go Go.RowKit Go.Proofs.Ytljpgbgokjiamaa.Aw Go.Proofs.Ytljpgbgokjiamaa.In Go.Proofs.Ytljpgbgokjiamaa.Il
set_option linter.unusedSimpArgs false
set_option linter.unusedVariables false
attribute [local irreducible] AW SQ Step RO RC DE Thn InB
def lvT (r : Ras) (i : Nat) : List Int := ((covL r).take i).map fun c => r.lv.getD c.toNat 0
def lvC (r : Ras) : List Int := (covL r).map fun c => r.lv.getD c.toNat 0
def dsc (r : Ras) : List Int := (So.srt (lvC r)).reverse
theorem lvC_len (r : Ras) : (lvC r).length = (covL r).length := List.length_map _
theorem dsc_len (r : Ras) : (dsc r).length = (covL r).length := by unfold dsc; rw [List.length_reverse, So.srt_len, lvC_len]
theorem lvT_succ {r : Ras} {i : Nat} (h : i < (covL r).length) : lvT r (i + 1) = lvT r i ++ [r.lv.getD ((covL r)[i]).toNat 0] := by
  unfold lvT
  rw [List.take_succ_eq_append_getElem h, List.map_append]; rfl
theorem lvT_len {r : Ras} {i : Nat} (h : i ≤ (covL r).length) : (lvT r i).length = i := by
  unfold lvT
  rw [List.length_map, List.length_take]; omega
theorem lvT_full (r : Ras) : lvT r (covL r).length = lvC r := by unfold lvT lvC; rw [List.take_length]
theorem least {P : Nat → Prop} {n : Nat} (h : P n) : ∃ i, i ≤ n ∧ P i ∧ ∀ j, j < i → ¬ P j := by
  induction n using Nat.strongRecOn with
  | _ n ih =>
    by_cases he : ∃ m, m < n ∧ P m
    · obtain ⟨m, hm, hp⟩ := he
      obtain ⟨i, h1, h2, h3⟩ := ih m hm hp
      exact ⟨i, by omega, h2, h3⟩
    · exact ⟨n, Nat.le_refl _, h, fun j hj hp => he ⟨j, hj, hp⟩⟩
set_option maxHeartbeats 4000000 in
theorem PercentileLevel_none_ro (r : Ras) (hs : r.sm) (hok : okR r = true) (hc : (covL r).length = 0) (sh : Int) (h1 : inB sh 1 1000000 = true) (k : Nat) :
    RO Try.prog 20 [.agg (rasL r), .v (.int .i64 sh)] k (.tup [.v (.int .i64 0), .v (.int .i64 6)]) [] k := by
  have hV := ValidRaster_ro r hs
  rw [hok] at hV
  have hW := within_ro sh 1 1000000
  rw [h1] at hW
  have hC := CoveredCells_ro r hs
  rw [if_pos hok, hc] at hC
  unfold rasL at *
  refine RO.ofp Try.func20 Try.ntmps20 rfl (goFn_of Try.func20 rfl (by kernel_rfl)) rfl rfl rfl ?_
  ((repeat' (first
    | (show SQ _ _ _ _ _ _ _ _; first | apply sq_nil | (apply q_move; exact rfl; exact rfl) | (apply q_assign; exact rfl; exact rfl) | (apply q_not; exact rfl; exact rfl) | (apply q_eql; exact rfl; exact rfl; exact rfl))
    | (show SQ _ _ _ _ _ _ _ _; (first | (apply q_ldap; exact rfl; exact rfl; exact (ty rfl); exact rfl; exact rfl; exact (by first | rfl | assumption | ((try simp only [Nat.zero_add]); refine List.getElem?_set_self ?_; (try simp only [List.length_set]); assumption)); exact rfl) | (apply q_box; exact rfl; exact rfl; exact rfl) | (apply q_callU; exact rfl; exact rfl; exact rfl; exact FzL.of rfl; exact hV _) | (apply q_callU; exact rfl; exact rfl; exact rfl; exact FzL.of rfl; exact hW _) | (apply q_callU; exact rfl; exact rfl; exact rfl; exact FzL.of rfl; exact hC _)); (try simp only [put, rowsOf, plR, List.all_cons, selE, ovr, setH, del, cellsA, splice, isV, List.nil_append, List.cons_append, List.map_cons, List.map_nil, List.length_cons, List.length_nil, List.set_cons_zero, List.set_cons_succ, List.take_succ_cons, List.take_zero, List.take_nil, List.drop_succ_cons, List.drop_zero, List.drop_nil, List.append_nil, List.all_cons, List.all_nil, Bool.and_true, Bool.true_and, Bool.and_false, Bool.false_and, Nat.reduceAdd, Nat.zero_add, Nat.add_zero, Nat.reduceEqDiff, if_true, if_false, reduceIte]))
    | (show AW _ _ _ _ _ _ _ _; first | refine aw_region ?_ | (refine aw_seqk ?_; intro K hK) | refine aw_block ?_ | (apply aw_cond_t; exact rfl; exact rfl) | (apply aw_cond_f; exact rfl; exact rfl) | refine aw_ret ?_)
    | refine thn_n ?_
    | (refine hK _ _ _ ?_; clear hK K)
    | refine thn_r ?_
    | refine inb_r ?_)); all_goals (repeat (clear hK K)))
  all_goals (refine fin_r (fin_p (.r2 _ _ _ _ (.tmp _ _ rfl) (.tmp _ _ rfl)) ?_ rfl rfl rfl); rfl)
theorem PercentileLevel_ex (r : Ras) (hs : r.sm) (hok : okR r = true) (hc : 1 ≤ (covL r).length) (sh : Int) (h1 : inB sh 1 1000000 = true) :
    ∃ i, i < (covL r).length ∧ (sh = 1000000 → i + 1 = (covL r).length) ∧ ∀ k, RO Try.prog 20 [.agg (rasL r), .v (.int .i64 sh)] k (.tup [.v (.int .i64 ((dsc r).getD i 0)), .v (.int .i64 0)]) [] k := by
  have hV := ValidRaster_ro r hs
  rw [hok] at hV
  have hW := within_ro sh 1 1000000
  rw [h1] at hW
  unfold inB at h1
  simp only [Bool.and_eq_true, decide_eq_true_eq] at h1
  have hC := CoveredCells_ro r hs
  rw [if_pos hok] at hC
  have hCov := covered_ro r hs
  obtain ⟨_, _, _, _, n1, n2, n3, n4, n5⟩ := ok_nums hok
  have hcl := covF_len r.sv r.sv.length
  change (covL r).length ≤ r.sv.length at hcl
  obtain ⟨i0, hi0, hP, hlo⟩ := least (P := fun i : Nat => sh * ((covL r).length : Int) ≤ ((i : Int) + 1) * 1000000) (n := (covL r).length - 1) (by
    have : sh * ((covL r).length : Int) ≤ 1000000 * ((covL r).length : Int) := Int.mul_le_mul_of_nonneg_right (by omega) (by omega)
    show sh * ((covL r).length : Int) ≤ _
    omega)
  refine ⟨i0, by omega, fun he => by subst he; have : (1000000 : Int) * ((covL r).length : Int) ≤ ((i0 : Int) + 1) * 1000000 := hP; omega, fun k => ?_⟩
  have hget := @cov_get r
  have hTs := @lvT_succ r
  have hTl := @lvT_len r
  have hTf := lvT_full r
  have hll0 := lvC_len r
  have hSo := fun k => So.Sort_rc 2 (lvC r) (by omega) k
  have hRv := fun k => So.Reverse_rc 2 (So.srt (lvC r)) (by rw [So.srt_len]; omega) (by rw [So.srt_len]; omega) k
  rw [So.srt_len] at hRv
  change ∀ k, RC Try.prog 43 [.sl 2 0 (lvC r).length] [(2, ⟨2, 1, true, (So.srt (lvC r)).map inL⟩)] k (.tup []) [(2, some ⟨2, 1, true, (dsc r).map inL⟩)] k at hRv
  change ∀ k, RC Try.prog 35 [.sl 2 0 (lvC r).length] [(2, ⟨2, 1, true, (lvC r).map inL⟩)] k (.tup []) [(2, some ⟨2, 1, true, (So.srt (lvC r)).map inL⟩)] k at hSo
  have hdl := dsc_len r
  have hll := lvC_len r
  rw [hll] at hSo hRv
  have hshB : 0 ≤ sh * ((covL r).length : Int) ∧ sh * ((covL r).length : Int) ≤ 1000000 * 576 := ⟨Int.mul_nonneg (by omega) (by omega), Int.mul_le_mul (by omega) (by omega) (by omega) (by omega)⟩
  generalize hrow0 : rasL r = row0 at *
  have hrow : row0 = [.v (.int .i64 r.st), .v (.int .i64 r.wd), .v (.int .i64 r.ht), .dsl 1 (r.sv.map inL), .dsl 1 (r.lv.map inL)] := hrow0.symm
  subst hrow
  have b0 : (((covL r).length : Int) == 0) = false := by rw [beq_eq_false_iff_ne]; omega
  generalize covL r = cs at *
  generalize dsc r = ds at *
  refine RO.ofp Try.func20 Try.ntmps20 rfl (goFn_of Try.func20 rfl (by kernel_rfl)) rfl rfl rfl ?_
  ((repeat' (first
    | (show SQ _ _ _ _ _ _ _ _; first | apply sq_nil | (apply q_move; exact rfl; exact rfl) | (apply q_assign; exact rfl; exact rfl) | (apply q_not; exact rfl; exact rfl) | (apply q_lenl; exact rfl; exact rfl; exact (ty rfl); exact rfl) | (apply q_eql; exact rfl; exact rfl; exact rfl))
    | (show SQ _ _ _ _ _ _ _ _; (first | (apply q_ldap; exact rfl; exact rfl; exact (ty rfl); exact rfl; exact rfl; exact (by first | rfl | assumption | ((try simp only [Nat.zero_add]); refine List.getElem?_set_self ?_; (try simp only [List.length_set]); assumption)); exact rfl) | (apply q_box; exact rfl; exact rfl; exact rfl) | (apply q_callU; exact rfl; exact rfl; exact rfl; exact FzL.of rfl; exact hV _) | (apply q_callU; exact rfl; exact rfl; exact rfl; exact FzL.of rfl; exact hW _) | (apply q_callU; exact rfl; exact rfl; exact rfl; exact FzL.of rfl; exact hC _) | (apply q_callU; exact rfl; exact rfl; exact rfl; exact FzL.of rfl; exact hCov _)); (try simp only [put, rowsOf, plR, List.all_cons, selE, ovr, setH, del, cellsA, splice, isV, List.nil_append, List.cons_append, List.map_cons, List.map_nil, List.length_cons, List.length_nil, List.set_cons_zero, List.set_cons_succ, List.take_succ_cons, List.take_zero, List.take_nil, List.drop_succ_cons, List.drop_zero, List.drop_nil, List.append_nil, List.all_cons, List.all_nil, Bool.and_true, Bool.true_and, Bool.and_false, Bool.false_and, Nat.reduceAdd, Nat.zero_add, Nat.add_zero, Nat.reduceEqDiff, if_true, if_false, reduceIte]))
    | (show AW _ _ _ _ _ _ _ _; first | refine aw_region ?_ | (refine aw_seqk ?_; intro K hK) | refine aw_block ?_ | (apply aw_cond_f; exact rfl; exact rfl) | (apply aw_cond_f; exact rfl; exact (by assumption)) | refine aw_skip ?_)
    | refine thn_n ?_
    | (refine hK _ _ _ ?_; clear hK K)
    | refine inb_n ?_)); all_goals (repeat (clear hK K)))
  refine aw_nil (t := 6) 2 1 rfl ?_
  refine aw_loop (ρ := id) (ι := Nat) (fun i => ([(27, .v (.int .i64 i)), (26, .v (.int .i64 cs.length)), (25, .sl 1 0 cs.length), (6, .sl 2 0 i), (2, .ptr 0 0 0), (1, .v (.int .i64 sh))],
      [(0, ⟨26, 5, false, [[.v (.int .i64 r.st), .v (.int .i64 r.wd), .v (.int .i64 r.ht), .dsl 1 (r.sv.map inL), .dsl 1 (r.lv.map inL)]]⟩), (1, ⟨3, 1, true, cs.map inL⟩), (2, ⟨2, 1, true, (lvT r i).map inL⟩)], 3))
    (fun i => i ≤ cs.length) (fun i => cs.length - i) 0 (Nat.zero_le _) ⟨by (repeat (refine ⟨by first | exact lk_i rfl rfl | exact lk_r rfl rfl rfl | exact lk_s rfl rfl rfl rfl, ?_⟩)); exact trivial, by (repeat (refine ⟨by first | exact ⟨rfl, rfl, rfl⟩, ?_⟩)); exact trivial, by rfl, by exact pin_0⟩ ?_
  intro i hi
  by_cases c1 : i < cs.length
  · have b4 : decide ((i : Int) < (cs.length : Int)) = true := by simpa using c1
    have hr1 := inL_get c1
    have hw : IntKind.i64.wrap ((i : Int) + 1) = ((i + 1 : Nat) : Int) := by rw [IntWalk.i64_in _ (by omega)]; omega
    obtain ⟨j, hj, ej, hp⟩ := hget c1
    have hS := hTs c1
    rw [ej] at hr1 hS
    have hr1 : (cs.map inL)[0 + ((i : Int)).toNat]? = some [.v (.int .i64 (j : Int))] := by rw [Nat.zero_add]; exact hr1
    have hj2 : j < r.lv.length := by omega
    have hr2 := inL_get hj2
    rw [Int.toNat_natCast, getD_at hj2] at hS
    have hml : ((lvT r i).map inL).length = i := by rw [List.length_map, hTl (by omega)]
    ((repeat' (first
    | (show SQ _ _ _ _ _ _ _ _; first | apply sq_nil | (apply q_move; exact rfl; exact rfl) | (apply q_assign; exact rfl; exact rfl) | (apply q_fieldAddr; exact rfl; exact rfl; exact (ty rfl); exact rfl; exact rfl; exact rfl; exact rfl) | (apply q_add; exact rfl; exact rfl; exact rfl) | (apply q_lss; exact rfl; exact rfl; exact rfl) | (apply q_ixd; exact rfl; exact rfl; exact rfl; exact (ty rfl); exact rfl; exact (by first | omega | (simp; done) | (simp; omega)); exact (by first | omega | (simp; done) | (simp; omega)); exact (by first | rfl | assumption)) | (apply q_ixl; exact rfl; exact rfl; exact rfl; exact (ty rfl); exact rfl; exact rfl; exact rfl; exact (by first | omega | (simp; done) | (simp; omega)); exact (by first | omega | (simp; done) | (simp; omega))) | (apply q_ld1d; exact rfl; exact rfl; exact (ty rfl); exact rfl; exact rfl) | (apply q_ld1p; exact rfl; exact rfl; exact (ty rfl); exact rfl; exact rfl; exact (by first | rfl | assumption | ((try simp only [Nat.zero_add]); refine List.getElem?_set_self ?_; (try simp only [List.length_set]); assumption)); exact rfl))
    | (show SQ _ _ _ _ _ _ _ _; (first | (apply q_buildn; exact rfl; exact (ty rfl); exact rfl; exact rfl; exact rfl; exact rfl; exact rfl; exact rfl; exact rfl) | (apply q_apo_s; exact rfl; exact rfl; exact rfl; exact (ty rfl); exact rfl; exact rfl; exact (by first | omega | (simp; done) | (simp; omega)); exact (by first | exact List.take_of_length_le (by first | omega | (simp; done) | (simp; omega)) | rfl); exact (ty rfl); exact rfl; exact rfl; exact (by first | omega | (simp; done) | (simp; omega)); exact (by first | exact dt_full (by first | omega | (simp; done) | (simp; omega)) | assumption | rfl); exact rfl; exact (by first | omega | (simp; done) | (simp; omega)); exact (by first | omega | (simp; done) | (simp; omega)); exact (by first | assumption | exact rfl))); (try simp only [put, rowsOf, plR, List.all_cons, selE, ovr, setH, del, cellsA, splice, isV, List.nil_append, List.cons_append, List.map_cons, List.map_nil, List.length_cons, List.length_nil, List.set_cons_zero, List.set_cons_succ, List.take_succ_cons, List.take_zero, List.take_nil, List.drop_succ_cons, List.drop_zero, List.drop_nil, List.append_nil, List.all_cons, List.all_nil, Bool.and_true, Bool.true_and, Bool.and_false, Bool.false_and, Nat.reduceAdd, Nat.zero_add, Nat.add_zero, Nat.reduceEqDiff, if_true, if_false, reduceIte]))
    | (show AW _ _ _ _ _ _ _ _; first | refine aw_region ?_ | (refine aw_seqk ?_; intro K hK) | refine aw_block ?_ | (apply aw_cond_t; exact rfl; exact (by assumption)) | refine aw_skip ?_)
    | refine thn_n ?_
    | (refine hK _ _ _ ?_; clear hK K)
    | refine inb_n ?_)); all_goals (repeat (clear hK K)))
    refine ⟨i + 1, fun j => [0, 1, 4].getD j 0, c1, by omega, ?_⟩
    (try dsimp only); rw [hS, ← hw]
    exact ⟨by (repeat (refine ⟨by first | exact lk_i rfl rfl | exact lk_r rfl rfl rfl | exact lk_s rfl rfl rfl rfl, ?_⟩)); exact trivial, by (repeat (refine ⟨by first | exact ⟨rfl, rfl, rfl⟩ | exact lkb rfl rfl rfl (by simp [inL]) rfl, ?_⟩)); exact trivial, by rfl, by exact pin_0⟩
  · have b1 : decide ((i : Int) < (cs.length : Int)) = false := by simpa using c1
    obtain rfl : i = cs.length := by omega
    rw [hTf]
    ((repeat' (first
    | (show SQ _ _ _ _ _ _ _ _; first | apply sq_nil | (apply q_move; exact rfl; exact rfl) | (apply q_assign; exact rfl; exact rfl) | (apply q_lenl; exact rfl; exact rfl; exact (ty rfl); exact rfl) | (apply q_lss; exact rfl; exact rfl; exact rfl))
    | (show SQ _ _ _ _ _ _ _ _; (first | (apply q_callC; exact rfl; exact rfl; exact rfl; exact hSo _; (focus ((repeat (first | exact trivial | refine ⟨by first | exact rfl | assumption, ?_⟩)); done)); skip) | (apply q_callC; exact rfl; exact rfl; exact rfl; exact hRv _; (focus ((repeat (first | exact trivial | refine ⟨by first | exact rfl | assumption, ?_⟩)); done)); skip)); (try simp only [put, rowsOf, plR, List.all_cons, selE, ovr, setH, del, cellsA, splice, isV, List.nil_append, List.cons_append, List.map_cons, List.map_nil, List.length_cons, List.length_nil, List.set_cons_zero, List.set_cons_succ, List.take_succ_cons, List.take_zero, List.take_nil, List.drop_succ_cons, List.drop_zero, List.drop_nil, List.append_nil, List.all_cons, List.all_nil, Bool.and_true, Bool.true_and, Bool.and_false, Bool.false_and, Nat.reduceAdd, Nat.zero_add, Nat.add_zero, Nat.reduceEqDiff, if_true, if_false, reduceIte]))
    | (show AW _ _ _ _ _ _ _ _; first | refine aw_region ?_ | (refine aw_seqk ?_; intro K hK) | refine aw_block ?_ | (apply aw_cond_f; exact rfl; exact (by assumption)) | refine aw_exit ?_)
    | refine thn_n ?_
    | (refine hK _ _ _ ?_; clear hK K)
    | refine thn_e ?_
    | refine inb_same ?_
    | (clear hK K; refine hK _ _ _ ?_; clear hK K))); all_goals (repeat (clear hK K)))
    refine aw_loop (ρ := id) (ι := Nat) (fun i => ([(48, .v (.int .i64 i)), (47, .v (.int .i64 cs.length)), (46, .sl 2 0 cs.length), (9, .v (.int .i64 cs.length)), (6, .sl 2 0 cs.length), (1, .v (.int .i64 sh))],
        [(2, ⟨2, 1, true, ds.map inL⟩)], 3))
      (fun i => i ≤ i0) (fun i => i0 + 1 - i) 0 (Nat.zero_le _) ⟨by (repeat (refine ⟨by first | exact lk_i rfl rfl | exact lk_s rfl rfl rfl rfl, ?_⟩)); exact trivial, by (repeat (refine ⟨by first | exact ⟨rfl, rfl, rfl⟩, ?_⟩)); exact trivial, by rfl, by exact pin_0⟩ ?_
    intro i hi
    have c2 : i < cs.length := by omega
    have b4 : decide ((i : Int) < (cs.length : Int)) = true := by simpa using c2
    have c3 : i < ds.length := by omega
    have hr1 := inL_get c3
    have hr1 : (ds.map inL)[0 + ((i : Int)).toNat]? = some [.v (.int .i64 ds[i])] := by rw [Nat.zero_add]; exact hr1
    have hw : IntKind.i64.wrap ((i : Int) + 1) = ((i + 1 : Nat) : Int) := by rw [IntWalk.i64_in _ (by omega)]; omega
    have hm : IntKind.i64.wrap (IntKind.i64.wrap ((i : Int) + 1) * 1000000) = ((i : Int) + 1) * 1000000 := by rw [hw, IntWalk.i64_in _ (by omega)]; omega
    have hm2 : IntKind.i64.wrap (sh * (cs.length : Int)) = sh * (cs.length : Int) := IntWalk.i64_in _ (by omega)
    by_cases c4 : i = i0
    · subst c4
      have b5 : decide (IntKind.i64.wrap (sh * (cs.length : Int)) ≤ IntKind.i64.wrap (IntKind.i64.wrap ((i : Int) + 1) * 1000000)) = true := by rw [hm, hm2]; simpa using hP
      rw [getD_at c3]
      ((repeat' (first
    | (show SQ _ _ _ _ _ _ _ _; first | apply sq_nil | (apply q_move; exact rfl; exact rfl) | (apply q_assign; exact rfl; exact rfl) | (apply q_add; exact rfl; exact rfl; exact rfl) | (apply q_mul; exact rfl; exact rfl; exact rfl) | (apply q_lss; exact rfl; exact rfl; exact rfl) | (apply q_geq; exact rfl; exact rfl; exact rfl) | (apply q_ixl; exact rfl; exact rfl; exact rfl; exact (ty rfl); exact rfl; exact rfl; exact rfl; exact (by first | omega | (simp; done) | (simp; omega)); exact (by first | omega | (simp; done) | (simp; omega))) | (apply q_ld1p; exact rfl; exact rfl; exact (ty rfl); exact rfl; exact rfl; exact (by first | rfl | assumption | ((try simp only [Nat.zero_add]); refine List.getElem?_set_self ?_; (try simp only [List.length_set]); assumption)); exact rfl))
    | (show AW _ _ _ _ _ _ _ _; first | refine aw_region ?_ | (refine aw_seqk ?_; intro K hK) | refine aw_block ?_ | (apply aw_cond_t; exact rfl; exact (by assumption)) | refine aw_ret ?_ | refine aw_skip ?_)
    | refine thn_n ?_
    | (refine hK _ _ _ ?_; clear hK K)
    | refine thn_r ?_
    | refine inb_r ?_)); all_goals (repeat (clear hK K)))
      all_goals (refine fin_r (fin_p (.r2 _ _ _ _ (.tmp _ _ rfl) (.tmp _ _ rfl)) ?_ rfl rfl rfl); rfl)
    · have b5 : decide (IntKind.i64.wrap (sh * (cs.length : Int)) ≤ IntKind.i64.wrap (IntKind.i64.wrap ((i : Int) + 1) * 1000000)) = false := by
        rw [hm, hm2]; have := hlo i (by omega); simpa using this
      ((repeat' (first
    | (show SQ _ _ _ _ _ _ _ _; first | apply sq_nil | (apply q_move; exact rfl; exact rfl) | (apply q_assign; exact rfl; exact rfl) | (apply q_add; exact rfl; exact rfl; exact rfl) | (apply q_mul; exact rfl; exact rfl; exact rfl) | (apply q_lss; exact rfl; exact rfl; exact rfl) | (apply q_geq; exact rfl; exact rfl; exact rfl) | (apply q_ixl; exact rfl; exact rfl; exact rfl; exact (ty rfl); exact rfl; exact rfl; exact rfl; exact (by first | omega | (simp; done) | (simp; omega)); exact (by first | omega | (simp; done) | (simp; omega))) | (apply q_ld1p; exact rfl; exact rfl; exact (ty rfl); exact rfl; exact rfl; exact (by first | rfl | assumption | ((try simp only [Nat.zero_add]); refine List.getElem?_set_self ?_; (try simp only [List.length_set]); assumption)); exact rfl))
    | (show AW _ _ _ _ _ _ _ _; first | refine aw_region ?_ | (refine aw_seqk ?_; intro K hK) | refine aw_block ?_ | (apply aw_cond_t; exact rfl; exact (by assumption)) | (apply aw_cond_f; exact rfl; exact (by assumption)) | refine aw_skip ?_)
    | refine thn_n ?_
    | (refine hK _ _ _ ?_; clear hK K)
    | refine inb_n ?_)); all_goals (repeat (clear hK K)))
      refine ⟨i + 1, id, by omega, by omega, ?_⟩
      (try dsimp only); rw [← hw]
      exact ⟨by (repeat (refine ⟨by first | exact lk_i rfl rfl | exact lk_s rfl rfl rfl rfl, ?_⟩)); exact trivial, by (repeat (refine ⟨by first | exact ⟨rfl, rfl, rfl⟩, ?_⟩)); exact trivial, by rfl, by exact pin_0⟩
end Go.Proofs.Ytljpgbgokjiamaa.St

namespace Go.Proofs.Ytljpgbgokjiamaa.Nb
open Go Go.RowKit Go.Proofs.Ytljpgbgokjiamaa.Aw Go.Proofs.Ytljpgbgokjiamaa.In Go.Proofs.Ytljpgbgokjiamaa.Il
set_option linter.unusedSimpArgs false
set_option linter.unusedVariables false
attribute [local irreducible] AW SQ Step RO RC DE Thn InB
def nbL (ls : List (List Int)) : List (List AV) := ls.map fun l => [.dsl 1 (l.map inL)]
def nbG (ls : List (List Int)) (i : Nat) : Bool := incB (ls.getD i []) && (!(ls.getD i []).any fun x => !inB x 0 ((ls.length : Int) - 1)) && !((ls.getD i []).any fun y => y == (i : Int))
def nbB (ls : List (List Int)) : Bool := decide (ls.length ≤ 24) && (List.range ls.length).all (nbG ls)
structure NbS (ls : List (List Int)) : Prop where
  n : ls.length ≤ 1048576
  m : ∀ l ∈ ls, l.length ≤ 1048576
theorem nbL_len (ls : List (List Int)) : (nbL ls).length = ls.length := List.length_map _
theorem nbL_get {ls : List (List Int)} {i : Nat} (h : i < ls.length) : (nbL ls)[((i : Int)).toNat]? = some [.dsl 1 (ls[i].map inL)] := by simp [nbL, h]
set_option maxHeartbeats 4000000 in
theorem ValidNeighbours_ro (ls : List (List Int)) (hS : NbS ls) (k : Nat) : RO Try.prog 17 [.dsl 1 (nbL ls)] k (.v (.bool (nbB ls))) [] k := by
  have hl := nbL_len ls
  by_cases c0 : 24 < ls.length
  · have b0 : decide ((24 : Int) < ((nbL ls).length : Int)) = true := by rw [hl]; simp; omega
    refine RO.ofv' Try.func17 Try.ntmps17 rfl (goFn_of Try.func17 rfl (by kernel_rfl)) rfl rfl ?_
    ((repeat' (first
    | (show SQ _ _ _ _ _ _ _ _; first | apply sq_nil | (apply q_move; exact rfl; exact rfl) | (apply q_assign; exact rfl; exact rfl) | (apply q_lend; exact rfl; exact rfl; exact (ty rfl); exact rfl) | (apply q_gtr; exact rfl; exact rfl; exact rfl))
    | (show AW _ _ _ _ _ _ _ _; first | refine aw_region ?_ | (refine aw_seqk ?_; intro K hK) | (apply aw_cond_t; exact rfl; exact (by assumption)) | refine aw_ret ?_)
    | refine thn_n ?_
    | (refine hK _ _ _ ?_; clear hK K)
    | refine thn_r ?_)); all_goals (repeat (clear hK K)))
    all_goals refine fin_r (fin_b rfl ?_)
    simp [nbB]; omega
  have b0 : decide ((24 : Int) < ((nbL ls).length : Int)) = false := by rw [hl]; simp; omega
  have hdec : decide (ls.length ≤ 24) = true := by simp; omega
  refine RO.ofv' Try.func17 Try.ntmps17 rfl (goFn_of Try.func17 rfl (by kernel_rfl)) rfl rfl ?_
  ((repeat' (first
    | (show SQ _ _ _ _ _ _ _ _; first | apply sq_nil | (apply q_move; exact rfl; exact rfl) | (apply q_assign; exact rfl; exact rfl) | (apply q_lend; exact rfl; exact rfl; exact (ty rfl); exact rfl) | (apply q_gtr; exact rfl; exact rfl; exact rfl))
    | (show AW _ _ _ _ _ _ _ _; first | refine aw_region ?_ | (refine aw_seqk ?_; intro K hK) | refine aw_block ?_ | (apply aw_cond_f; exact rfl; exact (by assumption)) | refine aw_skip ?_)
    | refine thn_n ?_
    | (refine hK _ _ _ ?_; clear hK K))); all_goals (repeat (clear hK K)))
  refine aw_loop (ρ := id) (ι := Nat) (fun i => ([(10, .v (.int .i64 i)), (9, .v (.int .i64 ls.length)), (8, .dsl 1 (nbL ls)), (0, .dsl 1 (nbL ls))], [], 0))
    (fun i => i ≤ ls.length ∧ ∀ j, j < i → nbG ls j = true) (fun i => ls.length - i) 0 ⟨Nat.zero_le _, fun j hj => absurd hj (Nat.not_lt_zero _)⟩ ⟨by (repeat (refine ⟨by first | exact lk_i rfl rfl | exact lk_i rfl (by (try dsimp only); first | rfl | omega | (rw [IntWalk.i64_in _ (by omega)]; first | rfl | omega | (push_cast; omega)) | (simp; done) | (simp; omega)) | exact lk_d rfl rfl, ?_⟩)); exact trivial, by exact trivial, by rfl, by exact pin_0⟩ ?_
  rintro i ⟨hi, hg⟩
  by_cases c1 : i < ls.length
  · have b1 : decide ((i : Int) < (ls.length : Int)) = true := by simpa using c1
    have hrow := nbL_get c1
    have hD : ls.getD i [] = ls[i] := by simp [List.getD, c1]
    have hm := hS.m _ (List.getElem_mem c1)
    have hG : nbG ls i = (incB ls[i] && (!ls[i].any fun x => !inB x 0 ((ls.length : Int) - 1)) && !(ls[i].any fun y => y == (i : Int))) := by rw [nbG, hD]
    have hwl : IntKind.i64.wrap (((nbL ls).length : Int) - 1) = (ls.length : Int) - 1 := by rw [hl]; exact IntWalk.i64_in _ (by omega)
    have hw : IntKind.i64.wrap ((i : Int) + 1) = ((i + 1 : Nat) : Int) := by rw [IntWalk.i64_in _ (by omega)]; omega
    have hA := allWithin_ro ls[i] (ls[i].map inL) 0 (IntKind.i64.wrap (((nbL ls).length : Int) - 1)) rfl hm
    rw [show (ls[i].any fun x => !inB x 0 (IntKind.i64.wrap (((nbL ls).length : Int) - 1))) = (ls[i].any fun x => !inB x 0 ((ls.length : Int) - 1)) by rw [hwl]] at hA
    have hI := increasing_ro ls[i] hm
    have hC := slContains_ro ls[i] (ls[i].map inL) (i : Int) rfl hm
    generalize (ls[i].any fun x => !inB x 0 ((ls.length : Int) - 1)) = u1 at *
    generalize incB ls[i] = u2 at *
    generalize (ls[i].any fun y => y == (i : Int)) = u3 at *
    ((repeat' (first
    | (show SQ _ _ _ _ _ _ _ _; first | apply sq_nil | (apply q_move; exact rfl; exact rfl) | (apply q_assign; exact rfl; exact rfl) | (apply q_pick_t; exact rfl; exact rfl; exact rfl; exact (by first | assumption | exact rfl)) | (apply q_pick_f; exact rfl; exact rfl; exact rfl; exact (by first | assumption | exact rfl)) | (apply q_not; exact rfl; exact rfl) | (apply q_lend; exact rfl; exact rfl; exact (ty rfl); exact rfl) | (apply q_add; exact rfl; exact rfl; exact rfl) | (apply q_sub; exact rfl; exact rfl; exact rfl) | (apply q_lss; exact rfl; exact rfl; exact rfl) | (apply q_ixd; exact rfl; exact rfl; exact rfl; exact (ty rfl); exact rfl; exact (by first | omega | (simp; done) | (simp; omega)); exact (by first | omega | (simp; done) | (simp; omega)); exact (by first | rfl | assumption)) | (apply q_ld1d; exact rfl; exact rfl; exact (ty rfl); exact rfl; exact rfl) | (apply q_g; exact rfl; exact rfl; exact rfl; exact (by assumption)) | (apply q_s; exact rfl; exact rfl; exact rfl; exact (by assumption); exact rfl) | (apply q_s; exact rfl; exact rfl; exact rfl; exact rfl; exact rfl))
    | (show SQ _ _ _ _ _ _ _ _; (first | (apply q_callU; exact rfl; exact rfl; exact rfl; exact FzL.of rfl; exact hA _) | (apply q_callU; exact rfl; exact rfl; exact rfl; exact FzL.of rfl; exact hI _) | (apply q_callU; exact rfl; exact rfl; exact rfl; exact FzL.of rfl; exact hC _)); (try simp only [put, rowsOf, plR, List.all_cons, selE, ovr, setH, del, cellsA, splice, isV, List.nil_append, List.cons_append, List.map_cons, List.map_nil, List.length_cons, List.length_nil, List.set_cons_zero, List.set_cons_succ, List.take_succ_cons, List.take_zero, List.take_nil, List.drop_succ_cons, List.drop_zero, List.drop_nil, List.append_nil, List.all_cons, List.all_nil, Bool.and_true, Bool.true_and, Bool.and_false, Bool.false_and, Nat.reduceAdd, Nat.zero_add, Nat.add_zero, Nat.reduceEqDiff, if_true, if_false, reduceIte]))
    | (show SQ _ _ _ _ _ _ _ _; apply q_gs; exact rfl; exact rfl; exact rfl; exact rfl; all_goals intro h)
    | (show AW _ _ _ _ _ _ _ _; first | refine aw_region ?_ | (refine aw_seqk ?_; intro K hK) | refine aw_block ?_ | (apply aw_cond_t; exact rfl; exact rfl) | (apply aw_cond_t; exact rfl; exact (by assumption)) | refine aw_ret ?_ | refine aw_skip ?_ | (apply aw_ite; exact rfl; all_goals intro h))
    | refine thn_n ?_
    | (refine hK _ _ _ ?_; clear hK K)
    | refine thn_r ?_
    | refine inb_n ?_
    | refine inb_r ?_)); all_goals (repeat (clear hK K)))
    all_goals first
      | (refine fin_r (fin_b rfl ?_)
         rw [nbB, allR_false c1 (by rw [hG]; simp_all), Bool.and_false]; done)
      | (refine ⟨i + 1, id, ⟨c1, fun j hj => ?_⟩, by omega, ?_⟩
         · by_cases hjq : j < i
           · exact hg j hjq
           · obtain rfl : j = i := by omega
             rw [hG]; simp_all
         · (try dsimp only); rw [← hw]; exact ⟨by (repeat (refine ⟨by first | exact lk_i rfl rfl | exact lk_d rfl rfl, ?_⟩)); exact trivial, by exact trivial, by rfl, by exact pin_0⟩)
  · have b1 : decide ((i : Int) < (ls.length : Int)) = false := by simpa using c1
    ((repeat' (first
    | (show SQ _ _ _ _ _ _ _ _; first | apply sq_nil | (apply q_assign; exact rfl; exact rfl) | (apply q_lss; exact rfl; exact rfl; exact rfl))
    | (show AW _ _ _ _ _ _ _ _; first | refine aw_region ?_ | (refine aw_seqk ?_; intro K hK) | (apply aw_cond_f; exact rfl; exact (by assumption)) | refine aw_ret ?_ | refine aw_exit ?_)
    | refine thn_n ?_
    | (refine hK _ _ _ ?_; clear hK K)
    | refine thn_e ?_
    | refine inb_same ?_
    | (clear hK K; refine hK _ _ _ ?_; clear hK K))); all_goals (repeat (clear hK K)))
    all_goals refine fin_r (fin_b rfl ?_)
    rw [nbB, hdec, allR_true fun j hj => hg j (by omega)]; rfl
def nearB (ls : List (List Int)) (i k : Nat) : Bool := ((ls.getD i []).any fun y => y == (k : Int)) || ((ls.getD k []).any fun y => y == (i : Int))
section
variable (ls : List (List Int)) (hS : NbS ls)
include hS
set_option maxHeartbeats 4000000 in
theorem areNeighbours_ro (i j : Nat) (hi : i < ls.length) (hj : j < ls.length) (k : Nat) : RO Try.prog 39 [.dsl 1 (nbL ls), .v (.int .i64 i), .v (.int .i64 j)] k (.v (.bool (nearB ls i j))) [] k := by
  have hl := nbL_len ls
  have hr1 := nbL_get hi
  have hr2 := nbL_get hj
  have hC1 := slContains_ro ls[i] (ls[i].map inL) (j : Int) rfl (hS.m _ (List.getElem_mem hi))
  have hC2 := slContains_ro ls[j] (ls[j].map inL) (i : Int) rfl (hS.m _ (List.getElem_mem hj))
  have hD : nearB ls i j = ((ls[i].any fun y => y == (j : Int)) || (ls[j].any fun y => y == (i : Int))) := by simp [nearB, List.getD, hi, hj]
  rw [hD]
  clear hD
  generalize (ls[i].any fun y => y == (j : Int)) = u1 at *
  generalize (ls[j].any fun y => y == (i : Int)) = u2 at *
  refine RO.ofv' Try.func39 Try.ntmps39 rfl (goFn_of Try.func39 rfl (by kernel_rfl)) rfl rfl ?_
  ((repeat' (first
    | (show SQ _ _ _ _ _ _ _ _; first | apply sq_nil | (apply q_move; exact rfl; exact rfl) | (apply q_assign; exact rfl; exact rfl) | (apply q_pick_t; exact rfl; exact rfl; exact rfl; exact (by first | assumption | exact rfl)) | (apply q_pick_f; exact rfl; exact rfl; exact rfl; exact (by first | assumption | exact rfl)) | (apply q_ixd; exact rfl; exact rfl; exact rfl; exact (ty rfl); exact rfl; exact (by first | omega | (simp; done) | (simp; omega)); exact (by first | omega | (simp; done) | (simp; omega)); exact (by first | rfl | assumption)) | (apply q_ld1d; exact rfl; exact rfl; exact (ty rfl); exact rfl; exact rfl) | (apply q_g; exact rfl; exact rfl; exact rfl; exact (by assumption)) | (apply q_s; exact rfl; exact rfl; exact rfl; exact (by assumption); exact rfl))
    | (show SQ _ _ _ _ _ _ _ _; (first | (apply q_callU; exact rfl; exact rfl; exact rfl; exact FzL.of rfl; exact hC1 _) | (apply q_callU; exact rfl; exact rfl; exact rfl; exact FzL.of rfl; exact hC2 _)); (try simp only [put, rowsOf, plR, List.all_cons, selE, ovr, setH, del, cellsA, splice, isV, List.nil_append, List.cons_append, List.map_cons, List.map_nil, List.length_cons, List.length_nil, List.set_cons_zero, List.set_cons_succ, List.take_succ_cons, List.take_zero, List.take_nil, List.drop_succ_cons, List.drop_zero, List.drop_nil, List.append_nil, List.all_cons, List.all_nil, Bool.and_true, Bool.true_and, Bool.and_false, Bool.false_and, Nat.reduceAdd, Nat.zero_add, Nat.add_zero, Nat.reduceEqDiff, if_true, if_false, reduceIte]))
    | (show SQ _ _ _ _ _ _ _ _; apply q_gs; exact rfl; exact rfl; exact rfl; exact rfl; all_goals intro h)
    | (show AW _ _ _ _ _ _ _ _; first | refine aw_region ?_ | (refine aw_seqk ?_; intro K hK) | refine aw_ret ?_)
    | refine thn_n ?_
    | (refine hK _ _ _ ?_; clear hK K))); all_goals (repeat (clear hK K)))
  all_goals refine fin_r (fin_b rfl ?_)
  all_goals simp_all
end
end Go.Proofs.Ytljpgbgokjiamaa.Nb

namespace Go.Proofs.Ytljpgbgokjiamaa.St
open Go Go.RowKit Go.Proofs.Ytljpgbgokjiamaa.Aw Go.Proofs.Ytljpgbgokjiamaa.In Go.Proofs.Ytljpgbgokjiamaa.Il
set_option linter.unusedSimpArgs false
set_option linter.unusedVariables false
attribute [local irreducible] AW SQ Step RO RC DE Thn InB
set_option maxHeartbeats 4000000 in
theorem b10Nums_ro (xs : List Int) (hn : xs.length ≤ 1048576) (k : Nat) : RO Try.prog 42 [.dsl 1 (xs.map inL), .dsl 1 (xs.map inL)] k (.v (.bool true)) [] k := by
  have l1 : (xs.map inL).length = xs.length := List.length_map _
  have e0 : ((((xs.map inL).length : Nat) : Int) != (((xs.map inL).length : Nat) : Int)) = false := by simp
  refine RO.ofv' Try.func42 Try.ntmps42 rfl (goFn_of Try.func42 rfl (by kernel_rfl)) rfl rfl ?_
  ((repeat' (first
    | (show SQ _ _ _ _ _ _ _ _; first | apply sq_nil | (apply q_move; exact rfl; exact rfl) | (apply q_assign; exact rfl; exact rfl) | (apply q_lend; exact rfl; exact rfl; exact (ty rfl); exact rfl) | (apply q_neq; exact rfl; exact rfl; exact rfl))
    | (show AW _ _ _ _ _ _ _ _; first | refine aw_region ?_ | (refine aw_seqk ?_; intro K hK) | refine aw_block ?_ | (apply aw_cond_f; exact rfl; exact (by assumption)) | refine aw_skip ?_)
    | refine thn_n ?_
    | (refine hK _ _ _ ?_; clear hK K))); all_goals (repeat (clear hK K)))
  refine aw_loop (ρ := id) (ι := Nat) (fun i => ([(5, .v (.int .i64 i)), (1, .dsl 1 (xs.map inL)), (0, .dsl 1 (xs.map inL))], [], 0))
    (fun i => i ≤ xs.length) (fun i => xs.length - i) 0 (Nat.zero_le _) ⟨by (repeat (refine ⟨by first | exact lk_i rfl rfl | exact lk_d rfl rfl, ?_⟩)); exact trivial, by exact trivial, by rfl, by exact pin_0⟩ ?_
  intro i hi
  by_cases c1 : i < xs.length
  · have b1 : decide ((i : Int) < ((xs.map inL).length : Int)) = true := by rw [l1]; simpa using c1
    have hr1 := inL_get c1
    have hw : IntKind.i64.wrap ((i : Int) + 1) = ((i + 1 : Nat) : Int) := by rw [IntWalk.i64_in _ (by omega)]; omega
    have e1 : (xs[i] != xs[i]) = false := by simp
    ((repeat' (first
    | (show SQ _ _ _ _ _ _ _ _; first | apply sq_nil | (apply q_move; exact rfl; exact rfl) | (apply q_assign; exact rfl; exact rfl) | (apply q_lend; exact rfl; exact rfl; exact (ty rfl); exact rfl) | (apply q_add; exact rfl; exact rfl; exact rfl) | (apply q_lss; exact rfl; exact rfl; exact rfl))
    | (show DE _ _ _ _ _ _ _ _ _ _ _ _; first | (apply e_move; exact rfl; exact rfl; exact rfl) | (apply e_neq; exact rfl; exact rfl; exact rfl; exact rfl) | (apply e_ixd; exact rfl; exact rfl; exact rfl; exact (ty rfl); exact rfl; exact (by first | omega | (simp; done) | (simp; omega)); exact (by first | omega | (simp; done) | (simp; omega)); exact (by first | rfl | assumption); exact rfl) | (apply e_ld1d; exact rfl; exact rfl; exact (ty rfl); exact rfl; exact rfl; exact rfl))
    | (show DE _ _ _ _ _ _ _ _ _ _ _ _; (first | (apply dr_nil; exact trivial)); (try simp only [put, rowsOf, plR, List.all_cons, selE, ovr, setH, del, cellsA, splice, isV, List.nil_append, List.cons_append, List.map_cons, List.map_nil, List.length_cons, List.length_nil, List.set_cons_zero, List.set_cons_succ, List.take_succ_cons, List.take_zero, List.take_nil, List.drop_succ_cons, List.drop_zero, List.drop_nil, List.append_nil, List.all_cons, List.all_nil, Bool.and_true, Bool.true_and, Bool.and_false, Bool.false_and, Nat.reduceAdd, Nat.zero_add, Nat.add_zero, Nat.reduceEqDiff, if_true, if_false, reduceIte]))
    | (show AW _ _ _ _ _ _ _ _; first | refine aw_region ?_ | (refine aw_seqk ?_; intro K hK) | refine aw_block ?_ | (apply aw_cond_t; exact rfl; exact (by assumption)) | (apply aw_cond_f; exact rfl; exact (by assumption)) | refine aw_skip ?_ | refine aw_drawE (id := 6) [0, 0, 3, 7, 0, 0, 48, 112, 255] [0, 0, 0, 1, 0, 0, 0, 1, 0] mixed (by kernel_rfl) ?_)
    | refine thn_n ?_
    | (refine hK _ _ _ ?_; clear hK K)
    | refine inb_n ?_)); all_goals (repeat (clear hK K)))
    refine ⟨i + 1, id, c1, by omega, ?_⟩
    (try dsimp only); rw [← hw]
    exact ⟨by (repeat (refine ⟨by first | exact lk_i rfl rfl | exact lk_d rfl rfl, ?_⟩)); exact trivial, by exact trivial, by rfl, by exact pin_0⟩
  · have b1 : decide ((i : Int) < ((xs.map inL).length : Int)) = false := by rw [l1]; simpa using c1
    ((repeat' (first
    | (show SQ _ _ _ _ _ _ _ _; first | apply sq_nil | (apply q_move; exact rfl; exact rfl) | (apply q_assign; exact rfl; exact rfl) | (apply q_lend; exact rfl; exact rfl; exact (ty rfl); exact rfl) | (apply q_lss; exact rfl; exact rfl; exact rfl))
    | (show AW _ _ _ _ _ _ _ _; first | refine aw_region ?_ | (refine aw_seqk ?_; intro K hK) | (apply aw_cond_f; exact rfl; exact (by assumption)) | refine aw_ret ?_ | refine aw_exit ?_)
    | refine thn_n ?_
    | (refine hK _ _ _ ?_; clear hK K)
    | refine thn_e ?_
    | refine inb_same ?_
    | (clear hK K; refine hK _ _ _ ?_; clear hK K))); all_goals (repeat (clear hK K)))
    all_goals exact fin_r (fin_b rfl rfl)
set_option maxHeartbeats 4000000 in
theorem b10Lists_ro (ls : List (List Int)) (hn : ls.length ≤ 1048576) (hm : ∀ l ∈ ls, l.length ≤ 1048576) (k : Nat) : RO Try.prog 18 [.dsl 1 (Nb.nbL ls), .dsl 1 (Nb.nbL ls)] k (.v (.bool true)) [] k := by
  have l1 := Nb.nbL_len ls
  have e0 : ((((Nb.nbL ls).length : Nat) : Int) != (((Nb.nbL ls).length : Nat) : Int)) = false := by simp
  refine RO.ofv' Try.func18 Try.ntmps18 rfl (goFn_of Try.func18 rfl (by kernel_rfl)) rfl rfl ?_
  ((repeat' (first
    | (show SQ _ _ _ _ _ _ _ _; first | apply sq_nil | (apply q_move; exact rfl; exact rfl) | (apply q_assign; exact rfl; exact rfl) | (apply q_lend; exact rfl; exact rfl; exact (ty rfl); exact rfl) | (apply q_neq; exact rfl; exact rfl; exact rfl))
    | (show AW _ _ _ _ _ _ _ _; first | refine aw_region ?_ | (refine aw_seqk ?_; intro K hK) | refine aw_block ?_ | (apply aw_cond_f; exact rfl; exact (by assumption)) | refine aw_skip ?_)
    | refine thn_n ?_
    | (refine hK _ _ _ ?_; clear hK K))); all_goals (repeat (clear hK K)))
  refine aw_loop (ρ := id) (ι := Nat) (fun i => ([(5, .v (.int .i64 i)), (1, .dsl 1 (Nb.nbL ls)), (0, .dsl 1 (Nb.nbL ls))], [], 0))
    (fun i => i ≤ ls.length) (fun i => ls.length - i) 0 (Nat.zero_le _) ⟨by (repeat (refine ⟨by first | exact lk_i rfl rfl | exact lk_d rfl rfl, ?_⟩)); exact trivial, by exact trivial, by rfl, by exact pin_0⟩ ?_
  intro i hi
  by_cases c1 : i < ls.length
  · have b1 : decide ((i : Int) < ((Nb.nbL ls).length : Int)) = true := by rw [l1]; simpa using c1
    have hr1 := Nb.nbL_get c1
    have hw : IntKind.i64.wrap ((i : Int) + 1) = ((i + 1 : Nat) : Int) := by rw [IntWalk.i64_in _ (by omega)]; omega
    have hN := b10Nums_ro ls[i] (hm _ (List.getElem_mem c1))
    ((repeat' (first
    | (show SQ _ _ _ _ _ _ _ _; first | apply sq_nil | (apply q_move; exact rfl; exact rfl) | (apply q_assign; exact rfl; exact rfl) | (apply q_lend; exact rfl; exact rfl; exact (ty rfl); exact rfl) | (apply q_add; exact rfl; exact rfl; exact rfl) | (apply q_lss; exact rfl; exact rfl; exact rfl))
    | (show DE _ _ _ _ _ _ _ _ _ _ _ _; first | (apply e_move; exact rfl; exact rfl; exact rfl) | (apply e_not; exact rfl; exact rfl; exact rfl) | (apply e_ixd; exact rfl; exact rfl; exact rfl; exact (ty rfl); exact rfl; exact (by first | omega | (simp; done) | (simp; omega)); exact (by first | omega | (simp; done) | (simp; omega)); exact (by first | rfl | assumption); exact rfl) | (apply e_ld1d; exact rfl; exact rfl; exact (ty rfl); exact rfl; exact rfl; exact rfl))
    | (show DE _ _ _ _ _ _ _ _ _ _ _ _; (first | (apply dr_nil; exact trivial) | (apply e_callU; exact rfl; exact rfl; exact rfl; exact FzL.of rfl; exact hN _; exact rfl)); (try simp only [put, rowsOf, plR, List.all_cons, selE, ovr, setH, del, cellsA, splice, isV, List.nil_append, List.cons_append, List.map_cons, List.map_nil, List.length_cons, List.length_nil, List.set_cons_zero, List.set_cons_succ, List.take_succ_cons, List.take_zero, List.take_nil, List.drop_succ_cons, List.drop_zero, List.drop_nil, List.append_nil, List.all_cons, List.all_nil, Bool.and_true, Bool.true_and, Bool.and_false, Bool.false_and, Nat.reduceAdd, Nat.zero_add, Nat.add_zero, Nat.reduceEqDiff, if_true, if_false, reduceIte]))
    | (show AW _ _ _ _ _ _ _ _; first | refine aw_region ?_ | (refine aw_seqk ?_; intro K hK) | refine aw_block ?_ | (apply aw_cond_f; exact rfl; exact rfl) | (apply aw_cond_t; exact rfl; exact (by assumption)) | refine aw_skip ?_ | refine aw_drawE (id := 6) [0, 0, 3, 7, 0, 0, 48, 112, 255, 511] [0, 0, 0, 1, 0, 0, 0, 1, 1, 0] mixed (by kernel_rfl) ?_)
    | refine thn_n ?_
    | (refine hK _ _ _ ?_; clear hK K)
    | refine inb_n ?_)); all_goals (repeat (clear hK K)))
    refine ⟨i + 1, id, c1, by omega, ?_⟩
    (try dsimp only); rw [← hw]
    exact ⟨by (repeat (refine ⟨by first | exact lk_i rfl rfl | exact lk_d rfl rfl, ?_⟩)); exact trivial, by exact trivial, by rfl, by exact pin_0⟩
  · have b1 : decide ((i : Int) < ((Nb.nbL ls).length : Int)) = false := by rw [l1]; simpa using c1
    ((repeat' (first
    | (show SQ _ _ _ _ _ _ _ _; first | apply sq_nil | (apply q_move; exact rfl; exact rfl) | (apply q_assign; exact rfl; exact rfl) | (apply q_lend; exact rfl; exact rfl; exact (ty rfl); exact rfl) | (apply q_lss; exact rfl; exact rfl; exact rfl))
    | (show AW _ _ _ _ _ _ _ _; first | refine aw_region ?_ | (refine aw_seqk ?_; intro K hK) | (apply aw_cond_f; exact rfl; exact (by assumption)) | refine aw_ret ?_ | refine aw_exit ?_)
    | refine thn_n ?_
    | (refine hK _ _ _ ?_; clear hK K)
    | refine thn_e ?_
    | refine inb_same ?_
    | (clear hK K; refine hK _ _ _ ?_; clear hK K))); all_goals (repeat (clear hK K)))
    all_goals exact fin_r (fin_b rfl rfl)
end Go.Proofs.Ytljpgbgokjiamaa.St

namespace Go.Proofs.Ytljpgbgokjiamaa.Aw
open Go Go.RowKit
set_option linter.unusedVariables false
set_option linter.unusedSimpArgs false
section
variable {K : Nat → Prop} {w w' : World} {m : Nat → Loc} {B : Nat} {es0 : Array MapEntry} {c0 : Nat}
end
section
variable {P : Program} {Old : Nat → Prop} {wi : WI Old} {K : Nat → Prop} {m : Nat → Loc} {S : Nat → Prop} {H : Hp} {w : World} {N n : Nat} {T : Tp} {o : Oper} {a : Act}
end
section
variable {P : Program} {N n : Nat} {all : Array Oper} {l : List Oper} {G : Tp → Hp → Nat → Prop} {T T' : Tp} {H : Hp} {ty : TypeId} {pos : String} {after : Array Edge} {d : Nat}
inductive VV : AV → Value → Prop
  | v (x : Value) : VV (.v x) x
  | agg2 (x y : Value) : VV (.agg [.v x, .v y]) (.agg #[x, y])
end
theorem VV.val {K : Nat → Prop} {w : World} {m : Nat → Loc} {S : Nat → Prop} {av : AV} {x : Value} (h : VV av x) : VR K w m S av x := by
  cases h with
  | v => exact .v _ _
  | agg2 a b =>
    refine .agg _ _ [a, b] rfl fun j cv y h1 h2 => ?_
    match j with
    | 0 => simp at h1 h2; subst h1 h2; exact .v _ _
    | 1 => simp at h1 h2; subst h1 h2; exact .v _ _
    | j + 2 => simp at h1
section
variable {P : Program} {N n : Nat} {all : Array Oper} {l : List Oper} {G : Tp → Hp → Nat → Prop} {T : Tp} {H : Hp} {ty : TypeId} {pos : String} {after : Array Edge} {d : Nat} {o : Oper}
end
section
variable {P : Program} {Old : Nat → Prop} {wi : WI Old} {K : Nat → Prop} {m : Nat → Loc} {S : Nat → Prop} {H : Hp} {w : World} {N n g : Nat} {T : Tp} {Q : Exit → Tp → Hp → Nat → Prop}
theorem Rel.reB {id ty sz : Nat} {pl : Bool} {rows rows' : List (List AV)} (hr : Rel Old wi K m S H w) (hl : look H id = some ⟨ty, sz, pl, rows⟩) (hlen : rows'.length = rows.length)
    (hw : ∀ (r : Nat) (row' : List AV), rows'[r]? = some row' → ∃ row, rows[r]? = some row ∧ row'.length = row.length ∧ ∀ (j : Nat) (cv' : AV), row'[j]? = some cv' → ∃ cv, row[j]? = some cv ∧ ∀ x, VR K w m S cv x → VR K w m S cv' x) : Rel Old wi K m S ((id, ⟨ty, sz, false, rows'⟩) :: H) w := by
  have old : ∀ i bi, look ((id, (⟨ty, sz, false, rows'⟩ : Blk)) :: H) i = some bi → ∃ b0, look H i = some b0 ∧ ((i = id ∧ bi = ⟨ty, sz, false, rows'⟩) ∨ bi = b0) := fun i bi h => by
    rw [look_cons] at h
    split at h
    · rename_i he; subst he; simp only [Option.some.injEq] at h; exact ⟨_, hl, .inl ⟨rfl, h.symm⟩⟩
    · exact ⟨bi, h, .inr rfl⟩
  refine { os := hr.os, tape := hr.tape, output := hr.output, size := hr.size, old := hr.old, olt := hr.olt, oown := fun i bi h => ?_, om := fun i bi h => ?_, kb := hr.kb, inS := fun i bi h => ?_, pin := hr.pin, pinS := hr.pinS, own := fun i bi h => ?_, inj := fun i j bi bj hi hj hne => ?_ }
  · obtain ⟨b0, h0, _⟩ := old i bi h; exact hr.oown i b0 h0
  · obtain ⟨b0, h0, hc⟩ := old i bi h
    rcases hc with ⟨rfl, rfl⟩ | rfl
    · exact fun hp hq => hr.om i ⟨ty, sz, pl, rows⟩ hl hp hq
    · exact hr.om i _ h0
  · obtain ⟨b0, h0, _⟩ := old i bi h; exact hr.inS i b0 h0
  · obtain ⟨b0, h0, hc⟩ := old i bi h
    rcases hc with ⟨rfl, rfl⟩ | rfl
    · rcases hr.own i _ hl with ⟨e1, e2⟩ | ⟨hp, hb⟩
      · refine .inl ⟨e1, ?_⟩
        simp only at e2
        rw [e2] at hlen
        exact List.length_eq_zero_iff.1 hlen
      · obtain ⟨cur, c1, c2, c3⟩ := hb.ex
        refine .inr ⟨hp, hb.nk, hb.sz, by have := hb.cap; simp only at this ⊢; rw [hlen]; exact this, hb.capm, (fun h => by cases h), cur, c1, c2, fun r row' hrow => ?_⟩
        obtain ⟨row, hr0, hlen, hcell⟩ := hw r row' hrow
        obtain ⟨g1, g2⟩ := c3 r row hr0
        refine ⟨hlen.trans g1, fun j cv' hj => ?_⟩
        obtain ⟨cv, hj0, hwk⟩ := hcell j cv' hj
        obtain ⟨x, hx, h1, hv⟩ := g2 j cv hj0
        refine ⟨x, hx, h1, (hwk x (hv.mono (fun _ h => h) (fun _ _ => rfl) (fun i hi => hi.1) (fun _ _ => rfl))).mono (fun _ h => h) (fun _ _ => rfl) (fun i hi => ⟨hi, rfl⟩) (fun _ _ => rfl)⟩
    · exact hr.own i _ h0
  · obtain ⟨b1, h1, _⟩ := old i bi hi
    obtain ⟨b2, h2, _⟩ := old j bj hj
    exact hr.inj i j b1 b2 h1 h2 hne
theorem aw_nilB {c : Code} (id r j ety esz : Nat) {ty sz : Nat} {pl : Bool} {rows rows' : List (List AV)} {row : List AV} (hl : look H id = some ⟨ty, sz, pl, rows⟩) (hne : Nat.beq n id = false) (hrow : rows[r]? = some row) (hj : row[j]? = some (.v (.slice none 0 0))) (he : rows.set r (row.set j (.sl n 0 0)) = rows')
    (h : AW P N g c Q T ((id, ⟨ty, sz, false, rows'⟩) :: (n, ⟨ety, esz, true, []⟩) :: H) (n + 1)) : AW P N g c Q T H n := fun Old wi K m a w hp hr ht => by
  have hn : ¬ (fun i => i < n) n := Nat.lt_irrefl n
  have hph := hr.phantom hn ety esz true
  have hm : ∀ i, i < n → updL m n ⟨0, 0, 0, true⟩ i = m i := fun i hi => updL_ne _ _ (fun e => hn (e ▸ hi))
  have eS : addS (fun i => i < n) n (n + 1) = fun i => i < n + 1 := addS_lt (Nat.le_succ n)
  rw [eS] at hph
  have hl2 : look ((n, (⟨ety, esz, true, []⟩ : Blk)) :: H) id = some ⟨ty, sz, pl, rows⟩ := by
    rw [look_cons, if_neg (fun e => by subst e; rw [Nat.beq_refl] at hne; cases hne)]; exact hl
  subst he
  refine h Old wi K _ a w hp (hph.reB hl2 (by simp) fun q row' hq => ?_) (ht.mono (fun _ h => h) (fun _ _ => rfl) (fun i (hi : i < n) => Nat.lt_succ_of_lt hi) hm)
  rw [List.getElem?_set] at hq
  split at hq
  · rename_i e
    subst e
    split at hq
    · simp only [Option.some.injEq] at hq
      subst hq
      refine ⟨row, hrow, by simp, fun k cv' hk => ?_⟩
      rw [List.getElem?_set] at hk
      split at hk
      · rename_i e
        subst e
        split at hk
        · simp only [Option.some.injEq] at hk
          subst hk
          refine ⟨_, hj, fun x hx => ?_⟩
          cases hx
          exact .sl0 _ _ _ _ (Nat.lt_succ_self n)
        · cases hk
      · exact ⟨cv', hk, fun x hx => hx⟩
    · cases hq
  · exact ⟨row', hq, rfl, fun k cv' hk => ⟨cv', hk, fun x hx => hx⟩⟩
end
end Go.Proofs.Ytljpgbgokjiamaa.Aw

namespace Go.Proofs.Ytljpgbgokjiamaa.St
open Go Go.RowKit Go.Proofs.Ytljpgbgokjiamaa.Aw Go.Proofs.Ytljpgbgokjiamaa.In Go.Proofs.Ytljpgbgokjiamaa.Il Go.Proofs.Ytljpgbgokjiamaa.Sr
set_option linter.unusedSimpArgs false
set_option linter.unusedVariables false
attribute [local irreducible] AW SQ Step RO RC DE Thn InB
structure Pk (s : Sr) (n k x : Int) (s' : Sr) : Prop where
  lo : 0 ≤ x
  hi : x < n
  ok : s'.ok (k + 2)
  rc : ∀ j b, RC Try.prog 25 [.ptr b 0 0, .v (.int .i64 n)] [(b, ⟨75, 3, false, [srR s]⟩)] j (.v (.int .i64 x)) [(b, some ⟨75, 3, false, [srR s']⟩)] j
theorem pk_ex {s : Sr} {k : Int} (n : Int) (h : s.ok k) (hk : k ≤ 900000) (h1 : 1 ≤ n) (hn : n ≤ 1000000) : ∃ x s', Pk s n k x s' :=
  ⟨_, _, (pk_bd s n h1).1, (pk_bd s n h1).2, pk_ok n h, fun j b => pick_rc b s n (h.mono hk) hn j⟩
set_option maxHeartbeats 4000000 in
theorem one_rc (b : Nat) {s : Sr} {n k x : Int} {s' : Sr} (h : Pk s n k x s') (j : Nat) : RC Try.prog 23 [.ptr b 0 0, .v (.int .i64 n)] [(b, ⟨75, 3, false, [srR s]⟩)] j (.v (.bool (x == 0))) [(b, some ⟨75, 3, false, [srR s']⟩)] j := by
  refine RC.ofc [b] 0 [.ptr 0 0 0, .v (.int .i64 n)] [(0, ⟨75, 3, false, [srR s]⟩)] (.v (.bool (x == 0))) [(0, some ⟨75, 3, false, [srR s']⟩)] Try.func23 Try.ntmps23 rfl (goFn_of Try.func23 rfl (by kernel_rfl)) rfl rfl rfl rfl rfl rfl rfl rfl (by simp_all) rfl ?_
  ((repeat' (first
    | (show SQ _ _ _ _ _ _ _ _; first | apply sq_nil | (apply q_move; exact rfl; exact rfl) | (apply q_assign; exact rfl; exact rfl) | (apply q_eql; exact rfl; exact rfl; exact rfl))
    | (show SQ _ _ _ _ _ _ _ _; (first | (apply q_callC; exact rfl; exact rfl; exact rfl; exact h.rc _ 0; (focus ((repeat (first | exact trivial | refine ⟨by first | exact rfl | assumption, ?_⟩)); done)); skip)); (try simp only [put, rowsOf, plR, List.all_cons, selE, ovr, setH, del, cellsA, splice, isV, List.nil_append, List.cons_append, List.map_cons, List.map_nil, List.length_cons, List.length_nil, List.set_cons_zero, List.set_cons_succ, List.take_succ_cons, List.take_zero, List.take_nil, List.drop_succ_cons, List.drop_zero, List.drop_nil, List.append_nil, List.all_cons, List.all_nil, Bool.and_true, Bool.true_and, Bool.and_false, Bool.false_and, Nat.reduceAdd, Nat.zero_add, Nat.add_zero, Nat.reduceEqDiff, if_true, if_false, reduceIte]))
    | (show AW _ _ _ _ _ _ _ _; first | refine aw_region ?_ | (refine aw_seqk ?_; intro K hK) | refine aw_ret ?_)
    | refine thn_n ?_
    | (refine hK _ _ _ ?_; clear hK K))); all_goals (repeat (clear hK K)))
  exact finc (fun i => i) (.r1 _ _ (.tmp _ _ rfl)) rfl (fun _ _ => rfl) ⟨rfl, trivial⟩ rfl
structure Ak (s : Sr) (ws : List Int) (k x : Int) (s' : Sr) : Prop where
  mem : x ∈ ws
  ok : s'.ok (k + 2)
  rc : ∀ j b c, b ≠ c → RC Try.prog 45 [.ptr b 0 0, .sl c 0 ws.length] [(b, ⟨75, 3, false, [srR s]⟩), (c, ⟨2, 1, true, ws.map fun w => [.v (.int .i64 w)]⟩)] j (.v (.int .i64 x)) [(b, some ⟨75, 3, false, [srR s']⟩), (c, some ⟨2, 1, true, ws.map fun w => [.v (.int .i64 w)]⟩)] j
set_option maxHeartbeats 4000000 in
theorem among_rc (b c : Nat) (s : Sr) (ws : List Int) (hbc : b ≠ c) (h : s.ok 900000) (hw : 1 ≤ ws.length) (hw2 : ws.length ≤ 1000) (k : Nat) :
    RC Try.prog 45 [.ptr b 0 0, .sl c 0 ws.length] [(b, ⟨75, 3, false, [srR s]⟩), (c, ⟨2, 1, true, ws.map fun w => [.v (.int .i64 w)]⟩)] k (.v (.int .i64 (ws.getD (pk s ws.length).1.toNat 0))) [(b, some ⟨75, 3, false, [srR (pk s ws.length).2]⟩), (c, some ⟨2, 1, true, ws.map fun w => [.v (.int .i64 w)]⟩)] k := by
  have hp := pk_bd s ws.length (by omega)
  obtain ⟨i, hi⟩ : ∃ i : Nat, (pk s ws.length).1 = i := ⟨(pk s ws.length).1.toNat, by omega⟩
  have hil : i < ws.length := by omega
  have hr2 : (ws.map fun w => [AV.v (.int .i64 w)])[0 + ((i : Int)).toNat]? = some [.v (.int .i64 ws[i])] := by simp [hil]
  have hv : ws.getD (pk s ws.length).1.toNat 0 = ws[i] := by rw [hi]; simp [hil]
  rw [hv]
  refine RC.ofc [b, c] 0 [.ptr 0 0 0, .sl 1 0 ws.length] [(0, ⟨75, 3, false, [srR s]⟩), (1, ⟨2, 1, true, ws.map fun w => [.v (.int .i64 w)]⟩)] (.v (.int .i64 ws[i])) [(0, some ⟨75, 3, false, [srR (pk s ws.length).2]⟩), (1, some ⟨2, 1, true, ws.map fun w => [.v (.int .i64 w)]⟩)] Try.func45 Try.ntmps45 rfl (goFn_of Try.func45 rfl (by kernel_rfl)) rfl rfl rfl rfl rfl rfl rfl rfl (by simp_all) rfl ?_
  have hpk := pick_rc 0 s (ws.length : Int) h (by omega)
  rw [hi] at hpk
  ((repeat' (first
    | (show SQ _ _ _ _ _ _ _ _; first | apply sq_nil | (apply q_move; exact rfl; exact rfl) | (apply q_assign; exact rfl; exact rfl) | (apply q_lenl; exact rfl; exact rfl; exact (ty rfl); exact rfl) | (apply q_ixl; exact rfl; exact rfl; exact rfl; exact (ty rfl); exact rfl; exact rfl; exact rfl; exact (by first | omega | (simp; done) | (simp; omega)); exact (by first | omega | (simp; done) | (simp; omega))) | (apply q_ld1p; exact rfl; exact rfl; exact (ty rfl); exact rfl; exact rfl; exact (by first | rfl | assumption | ((try simp only [Nat.zero_add]); refine List.getElem?_set_self ?_; (try simp only [List.length_set]); assumption)); exact rfl))
    | (show SQ _ _ _ _ _ _ _ _; (first | (apply q_callC; exact rfl; exact rfl; exact rfl; exact hpk _; (focus ((repeat (first | exact trivial | refine ⟨by first | exact rfl | assumption, ?_⟩)); done)); skip)); (try simp only [put, rowsOf, plR, List.all_cons, selE, ovr, setH, del, cellsA, splice, isV, List.nil_append, List.cons_append, List.map_cons, List.map_nil, List.length_cons, List.length_nil, List.set_cons_zero, List.set_cons_succ, List.take_succ_cons, List.take_zero, List.take_nil, List.drop_succ_cons, List.drop_zero, List.drop_nil, List.append_nil, List.all_cons, List.all_nil, Bool.and_true, Bool.true_and, Bool.and_false, Bool.false_and, Nat.reduceAdd, Nat.zero_add, Nat.add_zero, Nat.reduceEqDiff, if_true, if_false, reduceIte]))
    | (show AW _ _ _ _ _ _ _ _; first | refine aw_region ?_ | (refine aw_seqk ?_; intro K hK) | refine aw_ret ?_)
    | refine thn_n ?_
    | (refine hK _ _ _ ?_; clear hK K))); all_goals (repeat (clear hK K)))
  exact finc (fun i => i) (.r1 _ _ (.tmp _ _ rfl)) rfl (fun _ _ => rfl) ⟨rfl, rfl, trivial⟩ rfl
theorem ak_ex {s : Sr} {k : Int} (ws : List Int) (h : s.ok k) (hk : k ≤ 900000) (h1 : 1 ≤ ws.length) (hn : ws.length ≤ 1000) : ∃ x s', Ak s ws k x s' := by
  refine ⟨_, _, ?_, pk_ok _ h, fun j b c hbc => among_rc b c s ws hbc (h.mono hk) h1 hn j⟩
  have hp := pk_bd s ws.length (by omega)
  have hl : (pk s ws.length).1.toNat < ws.length := by omega
  rw [List.getD_eq_getElem?_getD, List.getElem?_eq_getElem hl]
  exact List.getElem_mem _
def repA (n : Nat) (x : Int) : List (List AV) := List.replicate n [.v (.int .i64 x)]
theorem repA_len (n : Nat) (x : Int) : (repA n x).length = n := List.length_replicate
theorem repA_succ (n : Nat) (x : Int) : repA (n + 1) x = repA n x ++ [[.v (.int .i64 x)]] := List.replicate_succ'
set_option maxHeartbeats 4000000 in
theorem l20Empty_ro (st w h : Int) (n : Nat) (hn : w * h = n) (hb : n ≤ 1000) (k : Nat) :
    RO Try.prog 57 [.v (.int .i64 st), .v (.int .i64 w), .v (.int .i64 h)] k (.agg [.v (.int .i64 st), .v (.int .i64 w), .v (.int .i64 h), .sl k 0 n, .sl (1 + k) 0 n]) [(k, ⟨2, 1, true, repA n (-1)⟩), (1 + k, ⟨2, 1, true, repA n (-300000)⟩)] (k + 2) := by
  have hw0 : IntKind.i64.wrap (w * h) = n := by rw [hn]; exact IntWalk.i64_in _ (by omega)
  refine RO.ofm (.agg [.v (.int .i64 st), .v (.int .i64 w), .v (.int .i64 h), .sl 0 0 n, .sl 1 0 n]) ([(0, ⟨2, 1, true, repA n (-1)⟩), (1, ⟨2, 1, true, repA n (-300000)⟩)]) 2 Try.func57 Try.ntmps57 rfl (goFn_of Try.func57 rfl (by kernel_rfl)) rfl rfl (by simp [renA, renL]) (by simp [shH, renB]) rfl ?_
  ((repeat' (first
    | (show SQ _ _ _ _ _ _ _ _; first | apply sq_nil | (apply q_move; exact rfl; exact rfl) | (apply q_assign; exact rfl; exact rfl) | (apply q_build; exact rfl; exact (ty rfl); exact rfl; exact rfl; exact rfl))
    | (show SQ _ _ _ _ _ _ _ _; (first | (apply q_alloc; exact rfl; exact (ty rfl); exact rfl; exact rfl) | (apply q_store; exact rfl; exact rfl; exact (ty rfl); exact rfl; exact (by first | rfl | assumption | ((try simp only [Nat.zero_add]); refine List.getElem?_set_self ?_; (try simp only [List.length_set]); assumption)); exact rfl; exact rfl; exact rfl)); (try simp only [put, rowsOf, plR, List.all_cons, selE, ovr, setH, del, cellsA, splice, isV, List.nil_append, List.cons_append, List.map_cons, List.map_nil, List.length_cons, List.length_nil, List.set_cons_zero, List.set_cons_succ, List.take_succ_cons, List.take_zero, List.take_nil, List.drop_succ_cons, List.drop_zero, List.drop_nil, List.append_nil, List.all_cons, List.all_nil, Bool.and_true, Bool.true_and, Bool.and_false, Bool.false_and, Nat.reduceAdd, Nat.zero_add, Nat.add_zero, Nat.reduceEqDiff, if_true, if_false, reduceIte]))
    | (show AW _ _ _ _ _ _ _ _; first | refine aw_region ?_ | (refine aw_seqk ?_; intro K hK) | refine aw_block ?_)
    | refine thn_n ?_
    | (refine hK _ _ _ ?_; clear hK K))); all_goals (repeat (clear hK K)))
  refine aw_nilB 1 0 3 2 1 rfl rfl rfl rfl rfl ?_
  refine aw_nilB 1 0 4 2 1 rfl rfl rfl rfl rfl ?_
  refine aw_loop (ρ := id) (ι := Nat) (fun i => ([(8, .v (.int .i64 i)), (7, .ptr 1 0 0), (6, .ptr 0 0 0), (2, .v (.int .i64 h)), (1, .v (.int .i64 w))],
      [(0, ⟨26, 5, false, [[.v (.int .i64 0), .v (.int .i64 0), .v (.int .i64 0), .v (.slice none 0 0), .v (.slice none 0 0)]]⟩), (1, ⟨26, 5, false, [[.v (.int .i64 st), .v (.int .i64 w), .v (.int .i64 h), .sl 2 0 i, .sl 3 0 i]]⟩),
       (2, ⟨2, 1, true, repA i (-1)⟩), (3, ⟨2, 1, true, repA i (-300000)⟩)], 4))
    (fun i => i ≤ n) (fun i => n - i) 0 (Nat.zero_le _) ⟨by (repeat (refine ⟨by first | exact lk_i rfl rfl | exact lk_r rfl rfl rfl, ?_⟩)); exact trivial, by (repeat (refine ⟨by first | exact ⟨rfl, rfl, rfl⟩, ?_⟩)); exact trivial, by rfl, by exact pin_0⟩ ?_
  intro i hi
  by_cases c1 : i < n
  · have b1 : decide ((i : Int) < IntKind.i64.wrap (w * h)) = true := by rw [hw0]; simpa using c1
    have hw : IntKind.i64.wrap ((i : Int) + 1) = ((i + 1 : Nat) : Int) := by rw [IntWalk.i64_in _ (by omega)]; omega
    have m1 := repA_len i (-1)
    have m2 := repA_len i (-300000)
    ((repeat' (first
    | (show SQ _ _ _ _ _ _ _ _; first | apply sq_nil | (apply q_move; exact rfl; exact rfl) | (apply q_assign; exact rfl; exact rfl) | (apply q_fieldAddr; exact rfl; exact rfl; exact (ty rfl); exact rfl; exact rfl; exact rfl; exact rfl) | (apply q_add; exact rfl; exact rfl; exact rfl) | (apply q_mul; exact rfl; exact rfl; exact rfl) | (apply q_lss; exact rfl; exact rfl; exact rfl) | (apply q_ld1p; exact rfl; exact rfl; exact (ty rfl); exact rfl; exact rfl; exact (by first | rfl | assumption | ((try simp only [Nat.zero_add]); refine List.getElem?_set_self ?_; (try simp only [List.length_set]); assumption)); exact rfl))
    | (show SQ _ _ _ _ _ _ _ _; (first | (apply q_store; exact rfl; exact rfl; exact (ty rfl); exact rfl; exact (by first | rfl | assumption | ((try simp only [Nat.zero_add]); refine List.getElem?_set_self ?_; (try simp only [List.length_set]); assumption)); exact rfl; exact rfl; exact rfl) | (apply q_buildn; exact rfl; exact (ty rfl); exact rfl; exact rfl; exact rfl; exact rfl; exact rfl; exact rfl; exact rfl) | (apply q_apo_s; exact rfl; exact rfl; exact rfl; exact (ty rfl); exact rfl; exact rfl; exact (by first | omega | (simp; done) | (simp; omega)); exact (by first | exact List.take_of_length_le (by first | omega | (simp; done) | (simp; omega)) | rfl); exact (ty rfl); exact rfl; exact rfl; exact (by first | omega | (simp; done) | (simp; omega)); exact (by first | exact dt_full (by first | omega | (simp; done) | (simp; omega)) | assumption | rfl); exact rfl; exact (by first | omega | (simp; done) | (simp; omega)); exact (by first | omega | (simp; done) | (simp; omega)); exact (by first | assumption | exact rfl))); (try simp only [put, rowsOf, plR, List.all_cons, selE, ovr, setH, del, cellsA, splice, isV, List.nil_append, List.cons_append, List.map_cons, List.map_nil, List.length_cons, List.length_nil, List.set_cons_zero, List.set_cons_succ, List.take_succ_cons, List.take_zero, List.take_nil, List.drop_succ_cons, List.drop_zero, List.drop_nil, List.append_nil, List.all_cons, List.all_nil, Bool.and_true, Bool.true_and, Bool.and_false, Bool.false_and, Nat.reduceAdd, Nat.zero_add, Nat.add_zero, Nat.reduceEqDiff, if_true, if_false, reduceIte]))
    | (show AW _ _ _ _ _ _ _ _; first | refine aw_region ?_ | (refine aw_seqk ?_; intro K hK) | refine aw_block ?_ | (apply aw_cond_t; exact rfl; exact (by assumption)) | refine aw_skip ?_)
    | refine thn_n ?_
    | (refine hK _ _ _ ?_; clear hK K)
    | refine inb_n ?_)); all_goals (repeat (clear hK K)))
    refine ⟨i + 1, fun j => [0, 1, 5, 7].getD j 0, c1, by omega, ?_⟩
    (try dsimp only); rw [repA_succ, repA_succ, ← hw]
    exact ⟨by (repeat (refine ⟨by first | exact lk_i rfl rfl | exact lk_r rfl rfl rfl, ?_⟩)); exact trivial, by (repeat (refine ⟨by first | exact ⟨rfl, rfl, rfl⟩, ?_⟩)); exact trivial, by rfl, by exact pin_0⟩
  · have b1 : decide ((i : Int) < IntKind.i64.wrap (w * h)) = false := by rw [hw0]; simpa using c1
    obtain rfl : i = n := by omega
    ((repeat' (first
    | (show SQ _ _ _ _ _ _ _ _; first | apply sq_nil | (apply q_move; exact rfl; exact rfl) | (apply q_mul; exact rfl; exact rfl; exact rfl) | (apply q_lss; exact rfl; exact rfl; exact rfl))
    | (show SQ _ _ _ _ _ _ _ _; (first | (apply q_ldap; exact rfl; exact rfl; exact (ty rfl); exact rfl; exact rfl; exact (by first | rfl | assumption | ((try simp only [Nat.zero_add]); refine List.getElem?_set_self ?_; (try simp only [List.length_set]); assumption)); exact rfl) | (apply q_store; exact rfl; exact rfl; exact (ty rfl); exact rfl; exact (by first | rfl | assumption | ((try simp only [Nat.zero_add]); refine List.getElem?_set_self ?_; (try simp only [List.length_set]); assumption)); exact rfl; exact rfl; exact rfl)); (try simp only [put, rowsOf, plR, List.all_cons, selE, ovr, setH, del, cellsA, splice, isV, List.nil_append, List.cons_append, List.map_cons, List.map_nil, List.length_cons, List.length_nil, List.set_cons_zero, List.set_cons_succ, List.take_succ_cons, List.take_zero, List.take_nil, List.drop_succ_cons, List.drop_zero, List.drop_nil, List.append_nil, List.all_cons, List.all_nil, Bool.and_true, Bool.true_and, Bool.and_false, Bool.false_and, Nat.reduceAdd, Nat.zero_add, Nat.add_zero, Nat.reduceEqDiff, if_true, if_false, reduceIte]))
    | (show AW _ _ _ _ _ _ _ _; first | refine aw_region ?_ | (refine aw_seqk ?_; intro K hK) | (apply aw_cond_f; exact rfl; exact (by assumption)) | refine aw_ret ?_ | refine aw_exit ?_)
    | refine thn_n ?_
    | (refine hK _ _ _ ?_; clear hK K)
    | refine thn_e ?_
    | refine inb_same ?_
    | (clear hK K; refine hK _ _ _ ?_; clear hK K))); all_goals (repeat (clear hK K)))
    refine fin_r ⟨⟨_, fun j => [2, 3].getD j 0, .r1 _ _ (.agg _ _ _ _ _ rfl (.inr ⟨_, _, _, _, _, rfl, rfl, rfl, rfl⟩) (ty rfl) rfl (Nat.le_of_ble_eq_true rfl)), rfl, ⟨⟨rfl, rfl, rfl⟩, ⟨rfl, rfl, rfl⟩, trivial⟩, rfl⟩, rfl, rfl, rfl⟩
end Go.Proofs.Ytljpgbgokjiamaa.St

namespace Go.Proofs.Ytljpgbgokjiamaa.St
open Go Go.RowKit Go.Proofs.Ytljpgbgokjiamaa.Aw Go.Proofs.Ytljpgbgokjiamaa.In Go.Proofs.Ytljpgbgokjiamaa.Il Go.Proofs.Ytljpgbgokjiamaa.Sr
set_option linter.unusedSimpArgs false
set_option linter.unusedVariables false
attribute [local irreducible] AW SQ Step RO RC DE Thn InB
structure Dk (f : FuncId) (c : Int) (s : Sr) (k : Int) (r : Ras) (s' : Sr) : Prop where
  n : 1 ≤ r.sv.length ∧ r.sv.length ≤ 25
  m : r.lv.length ≤ 25
  m1 : r.lv.length = r.sv.length
  ok : s'.ok (k + c)
  rc : ∀ j id, RC Try.prog f [.ptr id 0 0] [(id, ⟨75, 3, false, [srR s]⟩)] j (.agg [.v (.int .i64 r.st), .v (.int .i64 r.wd), .v (.int .i64 r.ht), .sl j 0 r.sv.length, .sl (j + 1) 0 r.lv.length]) [(id, some ⟨75, 3, false, [srR s']⟩), (j, some ⟨2, 1, true, r.sv.map inL⟩), (j + 1, some ⟨2, 1, true, r.lv.map inL⟩)] (j + 2)
def dkS (many base : Int) (σ : Sr × List Int × List Int) (i : Nat) : Sr × List Int × List Int :=
  if (pk σ.1 4).1 = 0 then ((pk σ.1 4).2, σ.2.1, σ.2.2)
  else ((pk (pk (pk σ.1 4).2 many).2 20).2, σ.2.1.set i (pk (pk σ.1 4).2 many).1, σ.2.2.set i (IntKind.i64.wrap (base - IntKind.i64.wrap ((pk (pk (pk σ.1 4).2 many).2 20).1 * 1000))))
def dkF (many base : Int) (n : Nat) (s : Sr) : Nat → Sr × List Int × List Int
  | 0 => (s, List.replicate n (-1), List.replicate n (-300000))
  | i + 1 => dkS many base (dkF many base n s i) i
theorem dkF_ok {many base : Int} {n : Nat} {s : Sr} {k : Int} (h : s.ok k) : ∀ i : Nat, (dkF many base n s i).1.ok (k + 6 * i) ∧ (dkF many base n s i).2.1.length = n ∧ (dkF many base n s i).2.2.length = n
  | 0 => ⟨h.mono (by omega), by simp [dkF], by simp [dkF]⟩
  | i + 1 => by
    obtain ⟨h1, h2, h3⟩ := dkF_ok (many := many) (base := base) (n := n) h i
    unfold dkF dkS
    split
    · exact ⟨(pk_ok 4 h1).mono (by omega), h2, h3⟩
    · exact ⟨(pk_ok 20 (pk_ok many (pk_ok 4 h1))).mono (by omega), by rw [List.length_set]; exact h2, by rw [List.length_set]; exact h3⟩
theorem l20DrawOk_ex {s : Sr} {k : Int} (h : s.ok k) (hk : k ≤ 600000) : ∃ r s', Dk 44 200 s k r s' := by
  obtain ⟨w0, s1, h1⟩ := pk_ex 4 h (by omega) (by omega) (by omega)
  obtain ⟨g0, s2, h2⟩ := pk_ex 4 h1.ok (by omega) (by omega) (by omega)
  obtain ⟨st, s3, h3⟩ := ak_ex [1, 40, 100, 1000] h2.ok (by omega) (by decide) (by decide)
  obtain ⟨m0, s4, h4⟩ := pk_ex 4 h3.ok (by omega) (by omega) (by omega)
  obtain ⟨b0, s5, h5⟩ := pk_ex 50 h4.ok (by omega) (by omega) (by omega)
  have c3 := fun j => h3.rc j 0 2 (by decide)
  simp only [List.map_cons, List.map_nil, List.length_cons, List.length_nil] at c3
  have w1 := h1.lo; have w2 := h1.hi
  have g1 := h2.lo; have g2 := h2.hi
  have hw0 : IntKind.i64.wrap (w0 + 2) = w0 + 2 := IntWalk.i64_in _ (by omega)
  have hg0 : IntKind.i64.wrap (g0 + 2) = g0 + 2 := IntWalk.i64_in _ (by omega)
  have p1 : 2 * 2 ≤ (w0 + 2) * (g0 + 2) := Int.mul_le_mul (by omega) (by omega) (by omega) (by omega)
  have p2 : (w0 + 2) * (g0 + 2) ≤ 5 * 5 := Int.mul_le_mul (by omega) (by omega) (by omega) (by omega)
  obtain ⟨n, hn⟩ : ∃ n : Nat, (w0 + 2) * (g0 + 2) = n := ⟨((w0 + 2) * (g0 + 2)).toNat, by omega⟩
  have hE := l20Empty_ro st (IntKind.i64.wrap (w0 + 2)) (IntKind.i64.wrap (g0 + 2)) n (by rw [hw0, hg0]; exact hn) (by omega)
  have m1 := h4.lo; have m2 := h4.hi
  have hm0 : IntKind.i64.wrap (m0 + 1) = m0 + 1 := IntWalk.i64_in _ (by omega)
  have hM : 1 ≤ IntKind.i64.wrap (m0 + 1) ∧ IntKind.i64.wrap (m0 + 1) ≤ 4 := by rw [hm0]; omega
  have hF := dkF_ok (many := (IntKind.i64.wrap (m0 + 1))) (base := (IntKind.i64.wrap (-60000 - IntKind.i64.wrap (b0 * 1000)))) (n := n) h5.ok
  have hfin := hF n
  refine ⟨⟨st, (IntKind.i64.wrap (w0 + 2)), (IntKind.i64.wrap (g0 + 2)), (dkF (IntKind.i64.wrap (m0 + 1)) (IntKind.i64.wrap (-60000 - IntKind.i64.wrap (b0 * 1000))) n s5 n).2.1, (dkF (IntKind.i64.wrap (m0 + 1)) (IntKind.i64.wrap (-60000 - IntKind.i64.wrap (b0 * 1000))) n s5 n).2.2⟩, (dkF (IntKind.i64.wrap (m0 + 1)) (IntKind.i64.wrap (-60000 - IntKind.i64.wrap (b0 * 1000))) n s5 n).1, by dsimp only; omega, by dsimp only; omega, by dsimp only; omega, hfin.1.mono (by omega), fun j sid => ?_⟩
  dsimp only
  rw [hfin.2.1, hfin.2.2]
  refine RC.ofc [sid] 2 [.ptr 0 0 0] [(0, ⟨75, 3, false, [srR s]⟩)] (.agg [.v (.int .i64 st), .v (.int .i64 (IntKind.i64.wrap (w0 + 2))), .v (.int .i64 (IntKind.i64.wrap (g0 + 2))), .sl 1 0 n, .sl 2 0 n]) [(0, some ⟨75, 3, false, [srR (dkF (IntKind.i64.wrap (m0 + 1)) (IntKind.i64.wrap (-60000 - IntKind.i64.wrap (b0 * 1000))) n s5 n).1]⟩), (1, some ⟨2, 1, true, (dkF (IntKind.i64.wrap (m0 + 1)) (IntKind.i64.wrap (-60000 - IntKind.i64.wrap (b0 * 1000))) n s5 n).2.1.map inL⟩), (2, some ⟨2, 1, true, (dkF (IntKind.i64.wrap (m0 + 1)) (IntKind.i64.wrap (-60000 - IntKind.i64.wrap (b0 * 1000))) n s5 n).2.2.map inL⟩)] Try.func44 Try.ntmps44 rfl (goFn_of Try.func44 rfl (by kernel_rfl)) rfl rfl rfl rfl rfl rfl rfl rfl (by simp_all) rfl ?_
  ((repeat' (first
    | (show SQ _ _ _ _ _ _ _ _; first | apply sq_nil | (apply q_move; exact rfl; exact rfl) | (apply q_assign; exact rfl; exact rfl) | (apply q_add; exact rfl; exact rfl; exact rfl) | (apply q_sub; exact rfl; exact rfl; exact rfl) | (apply q_mul; exact rfl; exact rfl; exact rfl))
    | (show SQ _ _ _ _ _ _ _ _; (first | (apply q_alloc; exact rfl; exact (ty rfl); exact rfl; exact rfl) | (apply q_store; exact rfl; exact rfl; exact (ty rfl); exact rfl; exact (by first | rfl | assumption | ((try simp only [Nat.zero_add]); refine List.getElem?_set_self ?_; (try simp only [List.length_set]); assumption)); exact rfl; exact rfl; exact rfl) | (apply q_buildn; exact rfl; exact (ty rfl); exact rfl; exact rfl; exact rfl; exact rfl; exact rfl; exact rfl; exact rfl) | (apply q_callU; exact rfl; exact rfl; exact rfl; exact FzL.of rfl; exact hE _) | (apply q_callC; exact rfl; exact rfl; exact rfl; exact h1.rc _ 0; (focus ((repeat (first | exact trivial | refine ⟨by first | exact rfl | assumption, ?_⟩)); done)); skip) | (apply q_callC; exact rfl; exact rfl; exact rfl; exact h2.rc _ 0; (focus ((repeat (first | exact trivial | refine ⟨by first | exact rfl | assumption, ?_⟩)); done)); skip) | (apply q_callC; exact rfl; exact rfl; exact rfl; exact c3 _; (focus ((repeat (first | exact trivial | refine ⟨by first | exact rfl | assumption, ?_⟩)); done)); skip) | (apply q_callC; exact rfl; exact rfl; exact rfl; exact h4.rc _ 0; (focus ((repeat (first | exact trivial | refine ⟨by first | exact rfl | assumption, ?_⟩)); done)); skip) | (apply q_callC; exact rfl; exact rfl; exact rfl; exact h5.rc _ 0; (focus ((repeat (first | exact trivial | refine ⟨by first | exact rfl | assumption, ?_⟩)); done)); skip)); (try simp only [put, rowsOf, plR, List.all_cons, selE, ovr, setH, del, cellsA, splice, isV, List.nil_append, List.cons_append, List.map_cons, List.map_nil, List.length_cons, List.length_nil, List.set_cons_zero, List.set_cons_succ, List.take_succ_cons, List.take_zero, List.take_nil, List.drop_succ_cons, List.drop_zero, List.drop_nil, List.append_nil, List.all_cons, List.all_nil, Bool.and_true, Bool.true_and, Bool.and_false, Bool.false_and, Nat.reduceAdd, Nat.zero_add, Nat.add_zero, Nat.reduceEqDiff, if_true, if_false, reduceIte]))
    | (show AW _ _ _ _ _ _ _ _; first | refine aw_region ?_ | (refine aw_seqk ?_; intro K hK) | refine aw_block ?_)
    | refine thn_n ?_
    | (refine hK _ _ _ ?_; clear hK K))); all_goals (repeat (clear hK K)))
  refine aw_loop (ρ := id) (ι := Nat) (fun i => ([(8, .v (.int .i64 i)), (7, .v (.int .i64 (IntKind.i64.wrap (-60000 - IntKind.i64.wrap (b0 * 1000))))), (6, .v (.int .i64 (IntKind.i64.wrap (m0 + 1)))), (5, .ptr 5 0 0), (2, .ptr 1 0 0), (0, .ptr 0 0 0)],
      [(0, ⟨75, 3, false, [srR (dkF (IntKind.i64.wrap (m0 + 1)) (IntKind.i64.wrap (-60000 - IntKind.i64.wrap (b0 * 1000))) n s5 i).1]⟩), (1, ⟨26, 5, false, [[.v (.int .i64 0), .v (.int .i64 0), .v (.int .i64 0), .v (.slice none 0 0), .v (.slice none 0 0)]]⟩),
       (3, ⟨2, 1, true, (dkF (IntKind.i64.wrap (m0 + 1)) (IntKind.i64.wrap (-60000 - IntKind.i64.wrap (b0 * 1000))) n s5 i).2.1.map inL⟩), (4, ⟨2, 1, true, (dkF (IntKind.i64.wrap (m0 + 1)) (IntKind.i64.wrap (-60000 - IntKind.i64.wrap (b0 * 1000))) n s5 i).2.2.map inL⟩),
       (5, ⟨26, 5, false, [[.v (.int .i64 st), .v (.int .i64 (IntKind.i64.wrap (w0 + 2))), .v (.int .i64 (IntKind.i64.wrap (g0 + 2))), .sl 3 0 n, .sl 4 0 n]]⟩)], 6))
    (fun i => i ≤ n) (fun i => n - i) 0 (Nat.zero_le _) ⟨by (repeat (refine ⟨by first | exact lk_i rfl rfl | exact lk_r rfl rfl rfl, ?_⟩)); exact trivial, by (repeat (refine ⟨by first | exact ⟨rfl, rfl, rfl⟩ | exact lkb rfl rfl rfl (by first | rfl | (simp [dkF, repA, inL]; done)) rfl, ?_⟩)); exact trivial, by rfl, by (intro i hi; (try dsimp only); refine ⟨?_, ?_⟩ <;> first | rfl | omega | (simp at hi; omega) | (simp; omega))⟩ ?_
  intro i hi
  by_cases c1 : i < n
  · have b1 : decide ((i : Int) < (n : Int)) = true := by simpa using c1
    have hw : IntKind.i64.wrap ((i : Int) + 1) = ((i + 1 : Nat) : Int) := by rw [IntWalk.i64_in _ (by omega)]; omega
    obtain ⟨q1, q2, q3⟩ := hF i
    have hS : dkF (IntKind.i64.wrap (m0 + 1)) (IntKind.i64.wrap (-60000 - IntKind.i64.wrap (b0 * 1000))) n s5 (i + 1) = dkS (IntKind.i64.wrap (m0 + 1)) (IntKind.i64.wrap (-60000 - IntKind.i64.wrap (b0 * 1000))) (dkF (IntKind.i64.wrap (m0 + 1)) (IntKind.i64.wrap (-60000 - IntKind.i64.wrap (b0 * 1000))) n s5 i) i := rfl
    generalize dkF (IntKind.i64.wrap (m0 + 1)) (IntKind.i64.wrap (-60000 - IntKind.i64.wrap (b0 * 1000))) n s5 i = σ at *
    obtain ⟨s6, A, C⟩ := σ
    dsimp only at q1 q2 q3 ⊢
    have oH := fun sid j => one_rc sid ⟨(pk_bd s6 4 (by omega)).1, (pk_bd s6 4 (by omega)).2, pk_ok 4 q1, fun j b => pick_rc b s6 4 (q1.mono (by omega)) (by omega) j⟩ j
    unfold dkS at hS
    dsimp only at hS
    cases hz : ((pk s6 4).1 == 0) with
    | true =>
      have hz' : (pk s6 4).1 = 0 := by simpa using hz
      rw [if_pos hz'] at hS
      ((repeat' (first
    | (show SQ _ _ _ _ _ _ _ _; first | apply sq_nil | (apply q_move; exact rfl; exact rfl) | (apply q_assign; exact rfl; exact rfl) | (apply q_fieldAddr; exact rfl; exact rfl; exact (ty rfl); exact rfl; exact rfl; exact rfl; exact rfl) | (apply q_lenl; exact rfl; exact rfl; exact (ty rfl); exact rfl) | (apply q_add; exact rfl; exact rfl; exact rfl) | (apply q_lss; exact rfl; exact rfl; exact rfl) | (apply q_ld1p; exact rfl; exact rfl; exact (ty rfl); exact rfl; exact rfl; exact (by first | rfl | assumption | ((try simp only [Nat.zero_add]); refine List.getElem?_set_self ?_; (try simp only [List.length_set]); assumption)); exact rfl))
    | (show SQ _ _ _ _ _ _ _ _; (first | (apply q_callC; exact rfl; exact rfl; exact rfl; exact oH 0 _; (focus ((repeat (first | exact trivial | refine ⟨by first | exact rfl | assumption, ?_⟩)); done)); skip)); (try simp only [put, rowsOf, plR, List.all_cons, selE, ovr, setH, del, cellsA, splice, isV, List.nil_append, List.cons_append, List.map_cons, List.map_nil, List.length_cons, List.length_nil, List.set_cons_zero, List.set_cons_succ, List.take_succ_cons, List.take_zero, List.take_nil, List.drop_succ_cons, List.drop_zero, List.drop_nil, List.append_nil, List.all_cons, List.all_nil, Bool.and_true, Bool.true_and, Bool.and_false, Bool.false_and, Nat.reduceAdd, Nat.zero_add, Nat.add_zero, Nat.reduceEqDiff, if_true, if_false, reduceIte]))
    | (show AW _ _ _ _ _ _ _ _; first | refine aw_region ?_ | (refine aw_seqk ?_; intro K hK) | refine aw_block ?_ | (apply aw_cond_t; exact rfl; exact (by assumption)) | refine aw_exit ?_ | refine aw_skip ?_)
    | refine thn_n ?_
    | (refine hK _ _ _ ?_; clear hK K)
    | refine thn_e ?_
    | refine inb_same ?_
    | (clear hK K; refine hK _ _ _ ?_; clear hK K))); all_goals (repeat (clear hK K)))
      refine ⟨i + 1, id, c1, by omega, ?_⟩
      (try dsimp only); rw [hS, ← hw]
      exact ⟨by (repeat (refine ⟨by first | exact lk_i rfl rfl | exact lk_r rfl rfl rfl, ?_⟩)); exact trivial, by (repeat (refine ⟨by first | exact ⟨rfl, rfl, rfl⟩, ?_⟩)); exact trivial, by rfl, by (intro i hi; (try dsimp only); refine ⟨?_, ?_⟩ <;> first | rfl | omega | (simp at hi; omega) | (simp; omega))⟩
    | false =>
      have hz' : ¬ (pk s6 4).1 = 0 := by simpa using hz
      rw [if_neg hz'] at hS
      have cA : i < A.length := by omega
      have cC : i < C.length := by omega
      have hrA : (A.map inL)[0 + ((i : Int)).toNat]? = some [.v (.int .i64 A[i])] := by rw [Nat.zero_add]; exact inL_get cA
      have hrC : (C.map inL)[0 + ((i : Int)).toNat]? = some [.v (.int .i64 C[i])] := by rw [Nat.zero_add]; exact inL_get cC
      have o4 := pk_ok 4 q1
      have oP := fun j => pick_rc 0 (pk s6 4).2 (IntKind.i64.wrap (m0 + 1)) (o4.mono (by omega)) (by omega) j
      have o5 := pk_ok (IntKind.i64.wrap (m0 + 1)) o4
      have oQ := fun j => pick_rc 0 (pk (pk s6 4).2 (IntKind.i64.wrap (m0 + 1))).2 20 (o5.mono (by omega)) (by omega) j
      generalize (pk (pk (pk s6 4).2 (IntKind.i64.wrap (m0 + 1))).2 20) = z3 at *
      generalize (pk (pk s6 4).2 (IntKind.i64.wrap (m0 + 1))) = z2 at *
      ((repeat' (first
    | (show SQ _ _ _ _ _ _ _ _; first | apply sq_nil | (apply q_move; exact rfl; exact rfl) | (apply q_assign; exact rfl; exact rfl) | (apply q_fieldAddr; exact rfl; exact rfl; exact (ty rfl); exact rfl; exact rfl; exact rfl; exact rfl) | (apply q_lenl; exact rfl; exact rfl; exact (ty rfl); exact rfl) | (apply q_add; exact rfl; exact rfl; exact rfl) | (apply q_lss; exact rfl; exact rfl; exact rfl) | (apply q_ld1p; exact rfl; exact rfl; exact (ty rfl); exact rfl; exact rfl; exact (by first | rfl | assumption | ((try simp only [Nat.zero_add]); refine List.getElem?_set_self ?_; (try simp only [List.length_set]); assumption)); exact rfl))
    | (show SQ _ _ _ _ _ _ _ _; (first | (apply q_callC; exact rfl; exact rfl; exact rfl; exact oH 0 _; (focus ((repeat (first | exact trivial | refine ⟨by first | exact rfl | assumption, ?_⟩)); done)); skip)); (try simp only [put, rowsOf, plR, List.all_cons, selE, ovr, setH, del, cellsA, splice, isV, List.nil_append, List.cons_append, List.map_cons, List.map_nil, List.length_cons, List.length_nil, List.set_cons_zero, List.set_cons_succ, List.take_succ_cons, List.take_zero, List.take_nil, List.drop_succ_cons, List.drop_zero, List.drop_nil, List.append_nil, List.all_cons, List.all_nil, Bool.and_true, Bool.true_and, Bool.and_false, Bool.false_and, Nat.reduceAdd, Nat.zero_add, Nat.add_zero, Nat.reduceEqDiff, if_true, if_false, reduceIte]))
    | (show DE _ _ _ _ _ _ _ _ _ _ _ _; first | (apply e_move; exact rfl; exact rfl; exact rfl) | (apply e_fieldAddr; exact rfl; exact rfl; exact (ty rfl); exact rfl; exact rfl; exact rfl; exact rfl; exact rfl) | (apply e_sub; exact rfl; exact rfl; exact rfl; exact rfl) | (apply e_mul; exact rfl; exact rfl; exact rfl; exact rfl) | (apply e_ixl; exact rfl; exact rfl; exact rfl; exact (ty rfl); exact rfl; exact rfl; exact rfl; exact (by first | omega | (simp; done) | (simp; omega)); exact (by first | omega | (simp; done) | (simp; omega)); exact rfl))
    | (show DE _ _ _ _ _ _ _ _ _ _ _ _; (first | (apply dr_nil; (focus ((repeat (first | exact trivial | exact Or.inr rfl | exact Or.inl (by kernel_rfl) | apply And.intro)); done))) | (apply e_rd1; exact rfl; exact rfl; exact (ty rfl); exact rfl; exact rfl; exact (by first | rfl | assumption | ((try simp only [Nat.zero_add]); refine List.getElem?_set_self ?_; (try simp only [List.length_set]); assumption)); exact rfl; exact rfl; exact rfl) | (apply e_store; exact rfl; exact rfl; exact (ty rfl); exact rfl; exact (by first | rfl | assumption | ((try simp only [Nat.zero_add]); refine List.getElem?_set_self ?_; (try simp only [List.length_set]); assumption)); exact rfl; exact rfl; exact rfl; exact rfl) | (apply e_callC; exact rfl; exact rfl; exact rfl; exact oP _; (focus ((repeat (first | exact trivial | refine ⟨by first | exact rfl | assumption, ?_⟩)); done)); exact rfl; skip) | (apply e_callC; exact rfl; exact rfl; exact rfl; exact oQ _; (focus ((repeat (first | exact trivial | refine ⟨by first | exact rfl | assumption, ?_⟩)); done)); exact rfl; skip)); (try simp only [put, rowsOf, plR, List.all_cons, selE, ovr, setH, del, cellsA, splice, isV, List.nil_append, List.cons_append, List.map_cons, List.map_nil, List.length_cons, List.length_nil, List.set_cons_zero, List.set_cons_succ, List.take_succ_cons, List.take_zero, List.take_nil, List.drop_succ_cons, List.drop_zero, List.drop_nil, List.append_nil, List.all_cons, List.all_nil, Bool.and_true, Bool.true_and, Bool.and_false, Bool.false_and, Nat.reduceAdd, Nat.zero_add, Nat.add_zero, Nat.reduceEqDiff, if_true, if_false, reduceIte]))
    | (show AW _ _ _ _ _ _ _ _; first | refine aw_region ?_ | (refine aw_seqk ?_; intro K hK) | refine aw_block ?_ | (apply aw_cond_t; exact rfl; exact (by assumption)) | (apply aw_cond_f; exact rfl; exact (by assumption)) | refine aw_skip ?_ | refine aw_drawE (id := 10) [0, 1, 0, 0, 0, 24, 63, 127] [0, 0, 0, 0, 0, 2, 1, 2, 1, 5] mixed (by kernel_rfl) ?_ | refine aw_drawE (id := 11) [0, 1, 0, 0, 0, 16, 48, 120, 255, 511] [0, 0, 0, 0, 0, 2, 0, 0, 1, 2, 1, 5] mixed (by kernel_rfl) ?_)
    | refine thn_n ?_
    | (refine hK _ _ _ ?_; clear hK K)
    | refine inb_n ?_)); all_goals (repeat (clear hK K)))
      refine ⟨i + 1, id, c1, by omega, ?_⟩
      (try dsimp only); rw [hS, ← hw]
      exact ⟨by (repeat (refine ⟨by first | exact lk_i rfl rfl | exact lk_r rfl rfl rfl, ?_⟩)); exact trivial, by (repeat (refine ⟨by first | exact ⟨rfl, rfl, rfl⟩ | exact lkb rfl rfl rfl (by first | rfl | (simp [inL]; done)) rfl, ?_⟩)); exact trivial, by rfl, by (intro i hi; (try dsimp only); refine ⟨?_, ?_⟩ <;> first | rfl | omega | (simp at hi; omega) | (simp; omega))⟩
  · have b1 : decide ((i : Int) < (n : Int)) = false := by simpa using c1
    obtain rfl : i = n := by omega
    ((repeat' (first
    | (show SQ _ _ _ _ _ _ _ _; first | apply sq_nil | (apply q_move; exact rfl; exact rfl) | (apply q_fieldAddr; exact rfl; exact rfl; exact (ty rfl); exact rfl; exact rfl; exact rfl; exact rfl) | (apply q_lenl; exact rfl; exact rfl; exact (ty rfl); exact rfl) | (apply q_lss; exact rfl; exact rfl; exact rfl) | (apply q_ld1p; exact rfl; exact rfl; exact (ty rfl); exact rfl; exact rfl; exact (by first | rfl | assumption | ((try simp only [Nat.zero_add]); refine List.getElem?_set_self ?_; (try simp only [List.length_set]); assumption)); exact rfl))
    | (show SQ _ _ _ _ _ _ _ _; (first | (apply q_ldap; exact rfl; exact rfl; exact (ty rfl); exact rfl; exact rfl; exact (by first | rfl | assumption | ((try simp only [Nat.zero_add]); refine List.getElem?_set_self ?_; (try simp only [List.length_set]); assumption)); exact rfl) | (apply q_store; exact rfl; exact rfl; exact (ty rfl); exact rfl; exact (by first | rfl | assumption | ((try simp only [Nat.zero_add]); refine List.getElem?_set_self ?_; (try simp only [List.length_set]); assumption)); exact rfl; exact rfl; exact rfl)); (try simp only [put, rowsOf, plR, List.all_cons, selE, ovr, setH, del, cellsA, splice, isV, List.nil_append, List.cons_append, List.map_cons, List.map_nil, List.length_cons, List.length_nil, List.set_cons_zero, List.set_cons_succ, List.take_succ_cons, List.take_zero, List.take_nil, List.drop_succ_cons, List.drop_zero, List.drop_nil, List.append_nil, List.all_cons, List.all_nil, Bool.and_true, Bool.true_and, Bool.and_false, Bool.false_and, Nat.reduceAdd, Nat.zero_add, Nat.add_zero, Nat.reduceEqDiff, if_true, if_false, reduceIte]))
    | (show AW _ _ _ _ _ _ _ _; first | refine aw_region ?_ | (refine aw_seqk ?_; intro K hK) | (apply aw_cond_f; exact rfl; exact (by assumption)) | refine aw_ret ?_ | refine aw_exit ?_)
    | refine thn_n ?_
    | (refine hK _ _ _ ?_; clear hK K)
    | refine thn_e ?_
    | refine inb_same ?_
    | (clear hK K; refine hK _ _ _ ?_; clear hK K))); all_goals (repeat (clear hK K)))
    exact finc (fun i => [0, 3, 4].getD i 0) (.r1 _ _ (.agg _ _ _ _ _ rfl (.inr ⟨_, _, _, _, _, rfl, rfl, rfl, rfl⟩) (ty rfl) rfl (Nat.le_of_ble_eq_true rfl))) rfl (fun i hi => by simp at hi; subst hi; rfl) ⟨rfl, rfl, rfl, trivial⟩ rfl
end Go.Proofs.Ytljpgbgokjiamaa.St

namespace Go.Proofs.Ytljpgbgokjiamaa.St
open Go Go.RowKit Go.Proofs.Ytljpgbgokjiamaa.Aw Go.Proofs.Ytljpgbgokjiamaa.In Go.Proofs.Ytljpgbgokjiamaa.Il Go.Proofs.Ytljpgbgokjiamaa.Sr
set_option linter.unusedSimpArgs false
set_option linter.unusedVariables false
attribute [local irreducible] AW SQ Step RO RC DE Thn InB
structure Lk (s : Sr) (k : Int) (r : Ras) (s' : Sr) : Prop where
  n : r.sv.length ≤ 25
  m : r.lv.length ≤ 25
  ok : s'.ok (k + 220)
  rc : ∀ j id, RC Try.prog 22 [.ptr id 0 0] [(id, ⟨75, 3, false, [srR s]⟩)] j (.agg (rasL r)) [(id, some ⟨75, 3, false, [srR s']⟩)] j
theorem noOwn_inL (xs : List Int) : (xs.map inL).all noOwnL = true := by
  rw [List.all_map]; exact List.all_eq_true.2 fun x _ => rfl
theorem setI (xs : List Int) (i : Nat) (x : Int) : (xs.map inL).set i [.v (.int .i64 x)] = (xs.set i x).map inL := by
  rw [List.map_set]; rfl
theorem l20Draw_ex {s : Sr} {k : Int} (h : s.ok k) (hk : k ≤ 300000) : ∃ r s', Lk s k r s' := by
  obtain ⟨r, s1, h1⟩ := l20DrawOk_ex h (by omega)
  have n1 := h1.n
  have n2 := h1.m
  have n3 := h1.m1
  obtain ⟨q1, s2, h2⟩ := pk_ex (r.sv.length : Int) h1.ok (by omega) (by omega) (by omega)
  obtain ⟨q, s3, h3⟩ := pk_ex 18 h2.ok (by omega) (by omega) (by omega)
  have r1 := fun j => h1.rc j 0
  have hq1 := h2.lo; have hq2 := h2.hi
  have l1 : (r.sv.map inL).length = r.sv.length := List.length_map _
  have l2 : (r.lv.map inL).length = r.lv.length := List.length_map _
  by_cases e0 : q = 0
  · subst e0
    have b0 : ((0 : Int) == 0) = true := rfl
    obtain ⟨x, s4, h4⟩ := ak_ex [0, 10000, 10001] h3.ok (by omega) (by decide) (by decide)
    have c4 := fun j => h4.rc j 0 5 (by decide)
    simp only [List.map_cons, List.map_nil, List.length_cons, List.length_nil] at c4
    refine ⟨⟨x, r.wd, r.ht, r.sv, r.lv⟩, s4, by dsimp only; omega, by dsimp only; omega, h4.ok.mono (by omega), fun j sid => ?_⟩
    unfold rasL
    refine RC.ofc [sid] 0 [.ptr 0 0 0] [(0, ⟨75, 3, false, [srR s]⟩)] (.agg [.v (.int .i64 x), .v (.int .i64 r.wd), .v (.int .i64 r.ht), .dsl 1 (r.sv.map inL), .dsl 1 (r.lv.map inL)]) [(0, some ⟨75, 3, false, [srR s4]⟩)] Try.func22 Try.ntmps22 rfl (goFn_of Try.func22 rfl (by kernel_rfl)) rfl rfl rfl rfl rfl rfl rfl rfl (by simp_all) rfl ?_
    ((repeat' (first
    | (show SQ _ _ _ _ _ _ _ _; first | apply sq_nil | (apply q_move; exact rfl; exact rfl) | (apply q_assign; exact rfl; exact rfl) | (apply q_fieldAddr; exact rfl; exact rfl; exact (ty rfl); exact rfl; exact rfl; exact rfl; exact rfl) | (apply q_lenl; exact rfl; exact rfl; exact (ty rfl); exact rfl) | (apply q_eql; exact rfl; exact rfl; exact rfl) | (apply q_ld1p; exact rfl; exact rfl; exact (ty rfl); exact rfl; exact rfl; exact (by first | rfl | assumption | ((try simp only [Nat.zero_add]); refine List.getElem?_set_self ?_; (try simp only [List.length_set]); assumption)); exact rfl))
    | (show SQ _ _ _ _ _ _ _ _; (first | (apply q_alloc; exact rfl; exact (ty rfl); exact rfl; exact rfl) | (apply q_store; exact rfl; exact rfl; exact (ty rfl); exact rfl; exact (by first | rfl | assumption | ((try simp only [Nat.zero_add]); refine List.getElem?_set_self ?_; (try simp only [List.length_set]); assumption)); exact rfl; exact rfl; exact rfl) | (apply q_buildn; exact rfl; exact (ty rfl); exact rfl; exact rfl; exact rfl; exact rfl; exact rfl; exact rfl; exact rfl) | (apply q_callC; exact rfl; exact rfl; exact rfl; exact r1 _; (focus ((repeat (first | exact trivial | refine ⟨by first | exact rfl | assumption, ?_⟩)); done)); skip) | (apply q_callC; exact rfl; exact rfl; exact rfl; exact h2.rc _ 0; (focus ((repeat (first | exact trivial | refine ⟨by first | exact rfl | assumption, ?_⟩)); done)); skip) | (apply q_callC; exact rfl; exact rfl; exact rfl; exact h3.rc _ 0; (focus ((repeat (first | exact trivial | refine ⟨by first | exact rfl | assumption, ?_⟩)); done)); skip) | (apply q_callC; exact rfl; exact rfl; exact rfl; exact c4 _; (focus ((repeat (first | exact trivial | refine ⟨by first | exact rfl | assumption, ?_⟩)); done)); skip)); (try simp only [put, rowsOf, plR, List.all_cons, selE, ovr, setH, del, cellsA, splice, isV, List.nil_append, List.cons_append, List.map_cons, List.map_nil, List.length_cons, List.length_nil, List.set_cons_zero, List.set_cons_succ, List.take_succ_cons, List.take_zero, List.take_nil, List.drop_succ_cons, List.drop_zero, List.drop_nil, List.append_nil, List.all_cons, List.all_nil, Bool.and_true, Bool.true_and, Bool.and_false, Bool.false_and, Nat.reduceAdd, Nat.zero_add, Nat.add_zero, Nat.reduceEqDiff, if_true, if_false, reduceIte]))
    | (show AW _ _ _ _ _ _ _ _; first | refine aw_region ?_ | (refine aw_seqk ?_; intro K hK) | refine aw_block ?_ | (apply aw_cond_t; exact rfl; exact rfl))
    | refine thn_n ?_
    | (refine hK _ _ _ ?_; clear hK K)
    | refine inb_n ?_)); all_goals (repeat (clear hK K)))
    apply q_ldap; exact rfl; exact rfl; exact (ty rfl); exact rfl; exact rfl; exact rfl; exact rfl
    refine sq_frza (t := 44) (rows' := r.sv.map inL) 3 rfl rfl rfl (by (try simp only [Nat.zero_add]); (try rw [setI]); exact noOwn_inL _) (by simp) (by (try simp only [Nat.zero_add]); (try rw [setI]); rw [List.drop_zero, List.take_of_length_le (by simp)]) ?_
    refine sq_frza (t := 44) (rows' := r.lv.map inL) 4 rfl rfl rfl (by (try simp only [Nat.zero_add]); (try rw [setI]); exact noOwn_inL _) (by simp) (by (try simp only [Nat.zero_add]); (try rw [setI]); rw [List.drop_zero, List.take_of_length_le (by simp)]) ?_
    ((repeat' (first
    | (show SQ _ _ _ _ _ _ _ _; first | apply sq_nil)
    | (show SQ _ _ _ _ _ _ _ _; (first | (apply q_store; exact rfl; exact rfl; exact (ty rfl); exact rfl; exact (by first | rfl | assumption | ((try simp only [Nat.zero_add]); refine List.getElem?_set_self ?_; (try simp only [List.length_set]); assumption)); exact rfl; exact rfl; exact rfl)); (try simp only [put, rowsOf, plR, List.all_cons, selE, ovr, setH, del, cellsA, splice, isV, List.nil_append, List.cons_append, List.map_cons, List.map_nil, List.length_cons, List.length_nil, List.set_cons_zero, List.set_cons_succ, List.take_succ_cons, List.take_zero, List.take_nil, List.drop_succ_cons, List.drop_zero, List.drop_nil, List.append_nil, List.all_cons, List.all_nil, Bool.and_true, Bool.true_and, Bool.and_false, Bool.false_and, Nat.reduceAdd, Nat.zero_add, Nat.add_zero, Nat.reduceEqDiff, if_true, if_false, reduceIte]))
    | (show AW _ _ _ _ _ _ _ _; first | refine aw_ret ?_)
    | refine thn_n ?_
    | (refine hK _ _ _ ?_; clear hK K))); all_goals (repeat (clear hK K)))
    exact finc (fun i => i) (.r1 _ _ (.agg _ _ _ _ _ rfl (.inr ⟨_, _, _, _, _, rfl, rfl, rfl, rfl⟩) (ty rfl) rfl (Nat.le_of_ble_eq_true rfl))) rfl (fun _ _ => rfl) ⟨rfl, trivial⟩ rfl
  by_cases e1 : q = 1
  · subst e1
    have b0 : ((1 : Int) == 0) = false := rfl
    have b1 : ((1 : Int) == 1) = true := rfl
    obtain ⟨x, s4, h4⟩ := ak_ex [-2, 23, 24, -1] h3.ok (by omega) (by decide) (by decide)
    have c4 := fun j => h4.rc j 0 5 (by decide)
    simp only [List.map_cons, List.map_nil, List.length_cons, List.length_nil] at c4
    have hq3 : q1.toNat < r.sv.length := by omega
    have hrw : (r.sv.map inL)[0 + q1.toNat]? = some [.v (.int .i64 r.sv[q1.toNat])] := by simp [inL, hq3]
    refine ⟨⟨r.st, r.wd, r.ht, r.sv.set q1.toNat x, r.lv⟩, s4, by dsimp only; rw [List.length_set]; omega, by dsimp only; omega, h4.ok.mono (by omega), fun j sid => ?_⟩
    unfold rasL
    refine RC.ofc [sid] 0 [.ptr 0 0 0] [(0, ⟨75, 3, false, [srR s]⟩)] (.agg [.v (.int .i64 r.st), .v (.int .i64 r.wd), .v (.int .i64 r.ht), .dsl 1 ((r.sv.set q1.toNat x).map inL), .dsl 1 (r.lv.map inL)]) [(0, some ⟨75, 3, false, [srR s4]⟩)] Try.func22 Try.ntmps22 rfl (goFn_of Try.func22 rfl (by kernel_rfl)) rfl rfl rfl rfl rfl rfl rfl rfl (by simp_all) rfl ?_
    ((repeat' (first
    | (show SQ _ _ _ _ _ _ _ _; first | apply sq_nil | (apply q_move; exact rfl; exact rfl) | (apply q_assign; exact rfl; exact rfl) | (apply q_fieldAddr; exact rfl; exact rfl; exact (ty rfl); exact rfl; exact rfl; exact rfl; exact rfl) | (apply q_lenl; exact rfl; exact rfl; exact (ty rfl); exact rfl) | (apply q_eql; exact rfl; exact rfl; exact rfl) | (apply q_ld1p; exact rfl; exact rfl; exact (ty rfl); exact rfl; exact rfl; exact (by first | rfl | assumption | ((try simp only [Nat.zero_add]); refine List.getElem?_set_self ?_; (try simp only [List.length_set]); assumption)); exact rfl))
    | (show SQ _ _ _ _ _ _ _ _; (first | (apply q_alloc; exact rfl; exact (ty rfl); exact rfl; exact rfl) | (apply q_store; exact rfl; exact rfl; exact (ty rfl); exact rfl; exact (by first | rfl | assumption | ((try simp only [Nat.zero_add]); refine List.getElem?_set_self ?_; (try simp only [List.length_set]); assumption)); exact rfl; exact rfl; exact rfl) | (apply q_callC; exact rfl; exact rfl; exact rfl; exact r1 _; (focus ((repeat (first | exact trivial | refine ⟨by first | exact rfl | assumption, ?_⟩)); done)); skip) | (apply q_callC; exact rfl; exact rfl; exact rfl; exact h2.rc _ 0; (focus ((repeat (first | exact trivial | refine ⟨by first | exact rfl | assumption, ?_⟩)); done)); skip) | (apply q_callC; exact rfl; exact rfl; exact rfl; exact h3.rc _ 0; (focus ((repeat (first | exact trivial | refine ⟨by first | exact rfl | assumption, ?_⟩)); done)); skip)); (try simp only [put, rowsOf, plR, List.all_cons, selE, ovr, setH, del, cellsA, splice, isV, List.nil_append, List.cons_append, List.map_cons, List.map_nil, List.length_cons, List.length_nil, List.set_cons_zero, List.set_cons_succ, List.take_succ_cons, List.take_zero, List.take_nil, List.drop_succ_cons, List.drop_zero, List.drop_nil, List.append_nil, List.all_cons, List.all_nil, Bool.and_true, Bool.true_and, Bool.and_false, Bool.false_and, Nat.reduceAdd, Nat.zero_add, Nat.add_zero, Nat.reduceEqDiff, if_true, if_false, reduceIte]))
    | (show DE _ _ _ _ _ _ _ _ _ _ _ _; first | (apply e_move; exact rfl; exact rfl; exact rfl) | (apply e_fieldAddr; exact rfl; exact rfl; exact (ty rfl); exact rfl; exact rfl; exact rfl; exact rfl; exact rfl) | (apply e_ixl; exact rfl; exact rfl; exact rfl; exact (ty rfl); exact rfl; exact rfl; exact rfl; exact (by first | omega | (simp; done) | (simp; omega)); exact (by first | omega | (simp; done) | (simp; omega)); exact rfl))
    | (show DE _ _ _ _ _ _ _ _ _ _ _ _; (first | (apply dr_nil; (focus ((repeat (first | exact trivial | exact Or.inr rfl | exact Or.inl (by kernel_rfl) | apply And.intro)); done))) | (apply e_rd1; exact rfl; exact rfl; exact (ty rfl); exact rfl; exact rfl; exact (by first | rfl | assumption | ((try simp only [Nat.zero_add]); refine List.getElem?_set_self ?_; (try simp only [List.length_set]); assumption)); exact rfl; exact rfl; exact rfl) | (apply e_store; exact rfl; exact rfl; exact (ty rfl); exact rfl; exact (by first | rfl | assumption | ((try simp only [Nat.zero_add]); refine List.getElem?_set_self ?_; (try simp only [List.length_set]); assumption)); exact rfl; exact rfl; exact rfl; exact rfl) | (apply e_buildn; exact rfl; exact (ty rfl); exact rfl; exact rfl; exact rfl; exact rfl; exact rfl; exact rfl; exact rfl; exact rfl) | (apply e_callC; exact rfl; exact rfl; exact rfl; exact c4 _; (focus ((repeat (first | exact trivial | refine ⟨by first | exact rfl | assumption, ?_⟩)); done)); exact rfl; skip)); (try simp only [put, rowsOf, plR, List.all_cons, selE, ovr, setH, del, cellsA, splice, isV, List.nil_append, List.cons_append, List.map_cons, List.map_nil, List.length_cons, List.length_nil, List.set_cons_zero, List.set_cons_succ, List.take_succ_cons, List.take_zero, List.take_nil, List.drop_succ_cons, List.drop_zero, List.drop_nil, List.append_nil, List.all_cons, List.all_nil, Bool.and_true, Bool.true_and, Bool.and_false, Bool.false_and, Nat.reduceAdd, Nat.zero_add, Nat.add_zero, Nat.reduceEqDiff, if_true, if_false, reduceIte]))
    | (show AW _ _ _ _ _ _ _ _; first | refine aw_region ?_ | (refine aw_seqk ?_; intro K hK) | refine aw_block ?_ | (apply aw_cond_t; exact rfl; exact rfl) | (apply aw_cond_f; exact rfl; exact rfl) | refine aw_drawE (id := 7) [0, 1, 0, 0, 0, 24, 63, 127] [0, 0, 0, 0, 1, 2, 1, 2, 1, 4] mixed (by kernel_rfl) ?_)
    | refine thn_n ?_
    | (refine hK _ _ _ ?_; clear hK K)
    | refine inb_n ?_)); all_goals (repeat (clear hK K)))
    apply q_ldap; exact rfl; exact rfl; exact (ty rfl); exact rfl; exact rfl; exact rfl; exact rfl
    refine sq_frza (t := 44) (rows' := (r.sv.set q1.toNat x).map inL) 3 rfl rfl rfl (by (try simp only [Nat.zero_add]); (try rw [setI]); exact noOwn_inL _) (by simp) (by (try simp only [Nat.zero_add]); (try rw [setI]); rw [List.drop_zero, List.take_of_length_le (by simp)]) ?_
    refine sq_frza (t := 44) (rows' := r.lv.map inL) 4 rfl rfl rfl (by (try simp only [Nat.zero_add]); (try rw [setI]); exact noOwn_inL _) (by simp) (by (try simp only [Nat.zero_add]); (try rw [setI]); rw [List.drop_zero, List.take_of_length_le (by simp)]) ?_
    ((repeat' (first
    | (show SQ _ _ _ _ _ _ _ _; first | apply sq_nil)
    | (show SQ _ _ _ _ _ _ _ _; (first | (apply q_store; exact rfl; exact rfl; exact (ty rfl); exact rfl; exact (by first | rfl | assumption | ((try simp only [Nat.zero_add]); refine List.getElem?_set_self ?_; (try simp only [List.length_set]); assumption)); exact rfl; exact rfl; exact rfl)); (try simp only [put, rowsOf, plR, List.all_cons, selE, ovr, setH, del, cellsA, splice, isV, List.nil_append, List.cons_append, List.map_cons, List.map_nil, List.length_cons, List.length_nil, List.set_cons_zero, List.set_cons_succ, List.take_succ_cons, List.take_zero, List.take_nil, List.drop_succ_cons, List.drop_zero, List.drop_nil, List.append_nil, List.all_cons, List.all_nil, Bool.and_true, Bool.true_and, Bool.and_false, Bool.false_and, Nat.reduceAdd, Nat.zero_add, Nat.add_zero, Nat.reduceEqDiff, if_true, if_false, reduceIte]))
    | (show AW _ _ _ _ _ _ _ _; first | refine aw_ret ?_)
    | refine thn_n ?_
    | (refine hK _ _ _ ?_; clear hK K))); all_goals (repeat (clear hK K)))
    exact finc (fun i => i) (.r1 _ _ (.agg _ _ _ _ _ rfl (.inr ⟨_, _, _, _, _, rfl, rfl, rfl, rfl⟩) (ty rfl) rfl (Nat.le_of_ble_eq_true rfl))) rfl (fun _ _ => rfl) ⟨rfl, trivial⟩ rfl
  by_cases e2 : q = 2
  · subst e2
    have b0 : ((2 : Int) == 0) = false := rfl
    have b1 : ((2 : Int) == 1) = false := rfl
    have b2 : ((2 : Int) == 2) = true := rfl
    obtain ⟨x, s4, h4⟩ := ak_ex [-300000, 300000, 300001] h3.ok (by omega) (by decide) (by decide)
    have c4 := fun j => h4.rc j 0 5 (by decide)
    simp only [List.map_cons, List.map_nil, List.length_cons, List.length_nil] at c4
    have hq3 : q1.toNat < r.lv.length := by omega
    have hrw : (r.lv.map inL)[0 + q1.toNat]? = some [.v (.int .i64 r.lv[q1.toNat])] := by simp [inL, hq3]
    refine ⟨⟨r.st, r.wd, r.ht, r.sv, r.lv.set q1.toNat x⟩, s4, by dsimp only; omega, by dsimp only; rw [List.length_set]; omega, h4.ok.mono (by omega), fun j sid => ?_⟩
    unfold rasL
    refine RC.ofc [sid] 0 [.ptr 0 0 0] [(0, ⟨75, 3, false, [srR s]⟩)] (.agg [.v (.int .i64 r.st), .v (.int .i64 r.wd), .v (.int .i64 r.ht), .dsl 1 (r.sv.map inL), .dsl 1 ((r.lv.set q1.toNat x).map inL)]) [(0, some ⟨75, 3, false, [srR s4]⟩)] Try.func22 Try.ntmps22 rfl (goFn_of Try.func22 rfl (by kernel_rfl)) rfl rfl rfl rfl rfl rfl rfl rfl (by simp_all) rfl ?_
    ((repeat' (first
    | (show SQ _ _ _ _ _ _ _ _; first | apply sq_nil | (apply q_move; exact rfl; exact rfl) | (apply q_assign; exact rfl; exact rfl) | (apply q_fieldAddr; exact rfl; exact rfl; exact (ty rfl); exact rfl; exact rfl; exact rfl; exact rfl) | (apply q_lenl; exact rfl; exact rfl; exact (ty rfl); exact rfl) | (apply q_eql; exact rfl; exact rfl; exact rfl) | (apply q_ld1p; exact rfl; exact rfl; exact (ty rfl); exact rfl; exact rfl; exact (by first | rfl | assumption | ((try simp only [Nat.zero_add]); refine List.getElem?_set_self ?_; (try simp only [List.length_set]); assumption)); exact rfl))
    | (show SQ _ _ _ _ _ _ _ _; (first | (apply q_alloc; exact rfl; exact (ty rfl); exact rfl; exact rfl) | (apply q_store; exact rfl; exact rfl; exact (ty rfl); exact rfl; exact (by first | rfl | assumption | ((try simp only [Nat.zero_add]); refine List.getElem?_set_self ?_; (try simp only [List.length_set]); assumption)); exact rfl; exact rfl; exact rfl) | (apply q_callC; exact rfl; exact rfl; exact rfl; exact r1 _; (focus ((repeat (first | exact trivial | refine ⟨by first | exact rfl | assumption, ?_⟩)); done)); skip) | (apply q_callC; exact rfl; exact rfl; exact rfl; exact h2.rc _ 0; (focus ((repeat (first | exact trivial | refine ⟨by first | exact rfl | assumption, ?_⟩)); done)); skip) | (apply q_callC; exact rfl; exact rfl; exact rfl; exact h3.rc _ 0; (focus ((repeat (first | exact trivial | refine ⟨by first | exact rfl | assumption, ?_⟩)); done)); skip)); (try simp only [put, rowsOf, plR, List.all_cons, selE, ovr, setH, del, cellsA, splice, isV, List.nil_append, List.cons_append, List.map_cons, List.map_nil, List.length_cons, List.length_nil, List.set_cons_zero, List.set_cons_succ, List.take_succ_cons, List.take_zero, List.take_nil, List.drop_succ_cons, List.drop_zero, List.drop_nil, List.append_nil, List.all_cons, List.all_nil, Bool.and_true, Bool.true_and, Bool.and_false, Bool.false_and, Nat.reduceAdd, Nat.zero_add, Nat.add_zero, Nat.reduceEqDiff, if_true, if_false, reduceIte]))
    | (show DE _ _ _ _ _ _ _ _ _ _ _ _; first | (apply e_move; exact rfl; exact rfl; exact rfl) | (apply e_fieldAddr; exact rfl; exact rfl; exact (ty rfl); exact rfl; exact rfl; exact rfl; exact rfl; exact rfl) | (apply e_ixl; exact rfl; exact rfl; exact rfl; exact (ty rfl); exact rfl; exact rfl; exact rfl; exact (by first | omega | (simp; done) | (simp; omega)); exact (by first | omega | (simp; done) | (simp; omega)); exact rfl))
    | (show DE _ _ _ _ _ _ _ _ _ _ _ _; (first | (apply dr_nil; (focus ((repeat (first | exact trivial | exact Or.inr rfl | exact Or.inl (by kernel_rfl) | apply And.intro)); done))) | (apply e_rd1; exact rfl; exact rfl; exact (ty rfl); exact rfl; exact rfl; exact (by first | rfl | assumption | ((try simp only [Nat.zero_add]); refine List.getElem?_set_self ?_; (try simp only [List.length_set]); assumption)); exact rfl; exact rfl; exact rfl) | (apply e_store; exact rfl; exact rfl; exact (ty rfl); exact rfl; exact (by first | rfl | assumption | ((try simp only [Nat.zero_add]); refine List.getElem?_set_self ?_; (try simp only [List.length_set]); assumption)); exact rfl; exact rfl; exact rfl; exact rfl) | (apply e_buildn; exact rfl; exact (ty rfl); exact rfl; exact rfl; exact rfl; exact rfl; exact rfl; exact rfl; exact rfl; exact rfl) | (apply e_callC; exact rfl; exact rfl; exact rfl; exact c4 _; (focus ((repeat (first | exact trivial | refine ⟨by first | exact rfl | assumption, ?_⟩)); done)); exact rfl; skip)); (try simp only [put, rowsOf, plR, List.all_cons, selE, ovr, setH, del, cellsA, splice, isV, List.nil_append, List.cons_append, List.map_cons, List.map_nil, List.length_cons, List.length_nil, List.set_cons_zero, List.set_cons_succ, List.take_succ_cons, List.take_zero, List.take_nil, List.drop_succ_cons, List.drop_zero, List.drop_nil, List.append_nil, List.all_cons, List.all_nil, Bool.and_true, Bool.true_and, Bool.and_false, Bool.false_and, Nat.reduceAdd, Nat.zero_add, Nat.add_zero, Nat.reduceEqDiff, if_true, if_false, reduceIte]))
    | (show AW _ _ _ _ _ _ _ _; first | refine aw_region ?_ | (refine aw_seqk ?_; intro K hK) | refine aw_block ?_ | (apply aw_cond_t; exact rfl; exact rfl) | (apply aw_cond_f; exact rfl; exact rfl) | refine aw_drawE (id := 9) [0, 1, 0, 0, 0, 24, 63, 127] [0, 0, 0, 0, 1, 2, 1, 2, 1, 4] mixed (by kernel_rfl) ?_)
    | refine thn_n ?_
    | (refine hK _ _ _ ?_; clear hK K)
    | refine inb_n ?_)); all_goals (repeat (clear hK K)))
    apply q_ldap; exact rfl; exact rfl; exact (ty rfl); exact rfl; exact rfl; exact rfl; exact rfl
    refine sq_frza (t := 44) (rows' := r.sv.map inL) 3 rfl rfl rfl (by (try simp only [Nat.zero_add]); (try rw [setI]); exact noOwn_inL _) (by simp) (by (try simp only [Nat.zero_add]); (try rw [setI]); rw [List.drop_zero, List.take_of_length_le (by simp)]) ?_
    refine sq_frza (t := 44) (rows' := (r.lv.set q1.toNat x).map inL) 4 rfl rfl rfl (by (try simp only [Nat.zero_add]); (try rw [setI]); exact noOwn_inL _) (by simp) (by (try simp only [Nat.zero_add]); (try rw [setI]); rw [List.drop_zero, List.take_of_length_le (by simp)]) ?_
    ((repeat' (first
    | (show SQ _ _ _ _ _ _ _ _; first | apply sq_nil)
    | (show SQ _ _ _ _ _ _ _ _; (first | (apply q_store; exact rfl; exact rfl; exact (ty rfl); exact rfl; exact (by first | rfl | assumption | ((try simp only [Nat.zero_add]); refine List.getElem?_set_self ?_; (try simp only [List.length_set]); assumption)); exact rfl; exact rfl; exact rfl)); (try simp only [put, rowsOf, plR, List.all_cons, selE, ovr, setH, del, cellsA, splice, isV, List.nil_append, List.cons_append, List.map_cons, List.map_nil, List.length_cons, List.length_nil, List.set_cons_zero, List.set_cons_succ, List.take_succ_cons, List.take_zero, List.take_nil, List.drop_succ_cons, List.drop_zero, List.drop_nil, List.append_nil, List.all_cons, List.all_nil, Bool.and_true, Bool.true_and, Bool.and_false, Bool.false_and, Nat.reduceAdd, Nat.zero_add, Nat.add_zero, Nat.reduceEqDiff, if_true, if_false, reduceIte]))
    | (show AW _ _ _ _ _ _ _ _; first | refine aw_ret ?_)
    | refine thn_n ?_
    | (refine hK _ _ _ ?_; clear hK K))); all_goals (repeat (clear hK K)))
    exact finc (fun i => i) (.r1 _ _ (.agg _ _ _ _ _ rfl (.inr ⟨_, _, _, _, _, rfl, rfl, rfl, rfl⟩) (ty rfl) rfl (Nat.le_of_ble_eq_true rfl))) rfl (fun _ _ => rfl) ⟨rfl, trivial⟩ rfl
  by_cases e3 : q = 3
  · subst e3
    have b0 : ((3 : Int) == 0) = false := rfl
    have b1 : ((3 : Int) == 1) = false := rfl
    have b2 : ((3 : Int) == 2) = false := rfl
    have b3 : ((3 : Int) == 3) = true := rfl
    have hz : (1 : Int).toNat = 1 := rfl
    refine ⟨⟨r.st, r.wd, r.ht, r.sv, r.lv.drop 1⟩, s3, by dsimp only; omega, by dsimp only; rw [List.length_drop]; omega, h3.ok.mono (by omega), fun j sid => ?_⟩
    unfold rasL
    refine RC.ofc [sid] 0 [.ptr 0 0 0] [(0, ⟨75, 3, false, [srR s]⟩)] (.agg [.v (.int .i64 r.st), .v (.int .i64 r.wd), .v (.int .i64 r.ht), .dsl 1 (r.sv.map inL), .dsl 1 ((r.lv.drop 1).map inL)]) [(0, some ⟨75, 3, false, [srR s3]⟩)] Try.func22 Try.ntmps22 rfl (goFn_of Try.func22 rfl (by kernel_rfl)) rfl rfl rfl rfl rfl rfl rfl rfl (by simp_all) rfl ?_
    ((repeat' (first
    | (show SQ _ _ _ _ _ _ _ _; first | apply sq_nil | (apply q_move; exact rfl; exact rfl) | (apply q_assign; exact rfl; exact rfl) | (apply q_fieldAddr; exact rfl; exact rfl; exact (ty rfl); exact rfl; exact rfl; exact rfl; exact rfl) | (apply q_lenl; exact rfl; exact rfl; exact (ty rfl); exact rfl) | (apply q_eql; exact rfl; exact rfl; exact rfl) | (apply q_ld1p; exact rfl; exact rfl; exact (ty rfl); exact rfl; exact rfl; exact (by first | rfl | assumption | ((try simp only [Nat.zero_add]); refine List.getElem?_set_self ?_; (try simp only [List.length_set]); assumption)); exact rfl) | (apply q_ssl_l; exact rfl; exact rfl; exact rfl; exact (ty rfl); exact rfl; exact rfl; exact (by first | omega | (simp; done) | (simp; omega)); exact (by first | omega | (simp; done) | (simp; omega)); exact (by first | omega | (simp; done) | (simp; omega))))
    | (show SQ _ _ _ _ _ _ _ _; (first | (apply q_alloc; exact rfl; exact (ty rfl); exact rfl; exact rfl) | (apply q_store; exact rfl; exact rfl; exact (ty rfl); exact rfl; exact (by first | rfl | assumption | ((try simp only [Nat.zero_add]); refine List.getElem?_set_self ?_; (try simp only [List.length_set]); assumption)); exact rfl; exact rfl; exact rfl) | (apply q_callC; exact rfl; exact rfl; exact rfl; exact r1 _; (focus ((repeat (first | exact trivial | refine ⟨by first | exact rfl | assumption, ?_⟩)); done)); skip) | (apply q_callC; exact rfl; exact rfl; exact rfl; exact h2.rc _ 0; (focus ((repeat (first | exact trivial | refine ⟨by first | exact rfl | assumption, ?_⟩)); done)); skip) | (apply q_callC; exact rfl; exact rfl; exact rfl; exact h3.rc _ 0; (focus ((repeat (first | exact trivial | refine ⟨by first | exact rfl | assumption, ?_⟩)); done)); skip)); (try simp only [put, rowsOf, plR, List.all_cons, selE, ovr, setH, del, cellsA, splice, isV, List.nil_append, List.cons_append, List.map_cons, List.map_nil, List.length_cons, List.length_nil, List.set_cons_zero, List.set_cons_succ, List.take_succ_cons, List.take_zero, List.take_nil, List.drop_succ_cons, List.drop_zero, List.drop_nil, List.append_nil, List.all_cons, List.all_nil, Bool.and_true, Bool.true_and, Bool.and_false, Bool.false_and, Nat.reduceAdd, Nat.zero_add, Nat.add_zero, Nat.reduceEqDiff, if_true, if_false, reduceIte]))
    | (show AW _ _ _ _ _ _ _ _; first | refine aw_region ?_ | (refine aw_seqk ?_; intro K hK) | refine aw_block ?_ | (apply aw_cond_t; exact rfl; exact rfl) | (apply aw_cond_f; exact rfl; exact rfl))
    | refine thn_n ?_
    | (refine hK _ _ _ ?_; clear hK K)
    | refine inb_n ?_)); all_goals (repeat (clear hK K)))
    apply q_ldap; exact rfl; exact rfl; exact (ty rfl); exact rfl; exact rfl; exact rfl; exact rfl
    refine sq_frza (t := 44) (rows' := r.sv.map inL) 3 rfl rfl rfl (by (try simp only [Nat.zero_add]); (try rw [setI]); exact noOwn_inL _) (by simp) (by (try simp only [Nat.zero_add]); (try rw [setI]); rw [List.drop_zero, List.take_of_length_le (by simp)]) ?_
    refine sq_frza (t := 44) (rows' := (r.lv.drop 1).map inL) 4 rfl rfl rfl (by (try simp only [Nat.zero_add]); (try rw [setI]); exact noOwn_inL _) (by simp only [List.length_map, hz]; omega) (by show ((r.lv.map inL).drop 1).take (r.lv.length - 1) = _; rw [List.take_of_length_le (by simp), List.map_drop]) ?_
    ((repeat' (first
    | (show SQ _ _ _ _ _ _ _ _; first | apply sq_nil)
    | (show SQ _ _ _ _ _ _ _ _; (first | (apply q_store; exact rfl; exact rfl; exact (ty rfl); exact rfl; exact (by first | rfl | assumption | ((try simp only [Nat.zero_add]); refine List.getElem?_set_self ?_; (try simp only [List.length_set]); assumption)); exact rfl; exact rfl; exact rfl)); (try simp only [put, rowsOf, plR, List.all_cons, selE, ovr, setH, del, cellsA, splice, isV, List.nil_append, List.cons_append, List.map_cons, List.map_nil, List.length_cons, List.length_nil, List.set_cons_zero, List.set_cons_succ, List.take_succ_cons, List.take_zero, List.take_nil, List.drop_succ_cons, List.drop_zero, List.drop_nil, List.append_nil, List.all_cons, List.all_nil, Bool.and_true, Bool.true_and, Bool.and_false, Bool.false_and, Nat.reduceAdd, Nat.zero_add, Nat.add_zero, Nat.reduceEqDiff, if_true, if_false, reduceIte]))
    | (show AW _ _ _ _ _ _ _ _; first | refine aw_ret ?_)
    | refine thn_n ?_
    | (refine hK _ _ _ ?_; clear hK K))); all_goals (repeat (clear hK K)))
    exact finc (fun i => i) (.r1 _ _ (.agg _ _ _ _ _ rfl (.inr ⟨_, _, _, _, _, rfl, rfl, rfl, rfl⟩) (ty rfl) rfl (Nat.le_of_ble_eq_true rfl))) rfl (fun _ _ => rfl) ⟨rfl, trivial⟩ rfl
  · have b0 : (q == 0) = false := by simpa using e0
    have b1 : (q == 1) = false := by simpa using e1
    have b2 : (q == 2) = false := by simpa using e2
    have b3 : (q == 3) = false := by simpa using e3
    refine ⟨r, s3, by omega, by omega, h3.ok.mono (by omega), fun j sid => ?_⟩
    unfold rasL
    refine RC.ofc [sid] 0 [.ptr 0 0 0] [(0, ⟨75, 3, false, [srR s]⟩)] (.agg [.v (.int .i64 r.st), .v (.int .i64 r.wd), .v (.int .i64 r.ht), .dsl 1 (r.sv.map inL), .dsl 1 (r.lv.map inL)]) [(0, some ⟨75, 3, false, [srR s3]⟩)] Try.func22 Try.ntmps22 rfl (goFn_of Try.func22 rfl (by kernel_rfl)) rfl rfl rfl rfl rfl rfl rfl rfl (by simp_all) rfl ?_
    ((repeat' (first
    | (show SQ _ _ _ _ _ _ _ _; first | apply sq_nil | (apply q_move; exact rfl; exact rfl) | (apply q_assign; exact rfl; exact rfl) | (apply q_fieldAddr; exact rfl; exact rfl; exact (ty rfl); exact rfl; exact rfl; exact rfl; exact rfl) | (apply q_lenl; exact rfl; exact rfl; exact (ty rfl); exact rfl) | (apply q_eql; exact rfl; exact rfl; exact rfl) | (apply q_ld1p; exact rfl; exact rfl; exact (ty rfl); exact rfl; exact rfl; exact (by first | rfl | assumption | ((try simp only [Nat.zero_add]); refine List.getElem?_set_self ?_; (try simp only [List.length_set]); assumption)); exact rfl))
    | (show SQ _ _ _ _ _ _ _ _; (first | (apply q_alloc; exact rfl; exact (ty rfl); exact rfl; exact rfl) | (apply q_store; exact rfl; exact rfl; exact (ty rfl); exact rfl; exact (by first | rfl | assumption | ((try simp only [Nat.zero_add]); refine List.getElem?_set_self ?_; (try simp only [List.length_set]); assumption)); exact rfl; exact rfl; exact rfl) | (apply q_callC; exact rfl; exact rfl; exact rfl; exact r1 _; (focus ((repeat (first | exact trivial | refine ⟨by first | exact rfl | assumption, ?_⟩)); done)); skip) | (apply q_callC; exact rfl; exact rfl; exact rfl; exact h2.rc _ 0; (focus ((repeat (first | exact trivial | refine ⟨by first | exact rfl | assumption, ?_⟩)); done)); skip) | (apply q_callC; exact rfl; exact rfl; exact rfl; exact h3.rc _ 0; (focus ((repeat (first | exact trivial | refine ⟨by first | exact rfl | assumption, ?_⟩)); done)); skip)); (try simp only [put, rowsOf, plR, List.all_cons, selE, ovr, setH, del, cellsA, splice, isV, List.nil_append, List.cons_append, List.map_cons, List.map_nil, List.length_cons, List.length_nil, List.set_cons_zero, List.set_cons_succ, List.take_succ_cons, List.take_zero, List.take_nil, List.drop_succ_cons, List.drop_zero, List.drop_nil, List.append_nil, List.all_cons, List.all_nil, Bool.and_true, Bool.true_and, Bool.and_false, Bool.false_and, Nat.reduceAdd, Nat.zero_add, Nat.add_zero, Nat.reduceEqDiff, if_true, if_false, reduceIte]))
    | (show AW _ _ _ _ _ _ _ _; first | refine aw_region ?_ | (refine aw_seqk ?_; intro K hK) | refine aw_block ?_ | (apply aw_cond_f; exact rfl; exact (by assumption)) | refine aw_skip ?_)
    | refine thn_n ?_
    | (refine hK _ _ _ ?_; clear hK K)
    | refine inb_n ?_)); all_goals (repeat (clear hK K)))
    apply q_ldap; exact rfl; exact rfl; exact (ty rfl); exact rfl; exact rfl; exact rfl; exact rfl
    refine sq_frza (t := 44) (rows' := r.sv.map inL) 3 rfl rfl rfl (by (try simp only [Nat.zero_add]); (try rw [setI]); exact noOwn_inL _) (by simp) (by (try simp only [Nat.zero_add]); (try rw [setI]); rw [List.drop_zero, List.take_of_length_le (by simp)]) ?_
    refine sq_frza (t := 44) (rows' := r.lv.map inL) 4 rfl rfl rfl (by (try simp only [Nat.zero_add]); (try rw [setI]); exact noOwn_inL _) (by simp) (by (try simp only [Nat.zero_add]); (try rw [setI]); rw [List.drop_zero, List.take_of_length_le (by simp)]) ?_
    ((repeat' (first
    | (show SQ _ _ _ _ _ _ _ _; first | apply sq_nil)
    | (show SQ _ _ _ _ _ _ _ _; (first | (apply q_store; exact rfl; exact rfl; exact (ty rfl); exact rfl; exact (by first | rfl | assumption | ((try simp only [Nat.zero_add]); refine List.getElem?_set_self ?_; (try simp only [List.length_set]); assumption)); exact rfl; exact rfl; exact rfl)); (try simp only [put, rowsOf, plR, List.all_cons, selE, ovr, setH, del, cellsA, splice, isV, List.nil_append, List.cons_append, List.map_cons, List.map_nil, List.length_cons, List.length_nil, List.set_cons_zero, List.set_cons_succ, List.take_succ_cons, List.take_zero, List.take_nil, List.drop_succ_cons, List.drop_zero, List.drop_nil, List.append_nil, List.all_cons, List.all_nil, Bool.and_true, Bool.true_and, Bool.and_false, Bool.false_and, Nat.reduceAdd, Nat.zero_add, Nat.add_zero, Nat.reduceEqDiff, if_true, if_false, reduceIte]))
    | (show AW _ _ _ _ _ _ _ _; first | refine aw_ret ?_)
    | refine thn_n ?_
    | (refine hK _ _ _ ?_; clear hK K))); all_goals (repeat (clear hK K)))
    exact finc (fun i => i) (.r1 _ _ (.agg _ _ _ _ _ rfl (.inr ⟨_, _, _, _, _, rfl, rfl, rfl, rfl⟩) (ty rfl) rfl (Nat.le_of_ble_eq_true rfl))) rfl (fun _ _ => rfl) ⟨rfl, trivial⟩ rfl
end Go.Proofs.Ytljpgbgokjiamaa.St

namespace Go.Proofs.Ytljpgbgokjiamaa.St
open Go Go.RowKit Go.Proofs.Ytljpgbgokjiamaa.Aw Go.Proofs.Ytljpgbgokjiamaa.In Go.Proofs.Ytljpgbgokjiamaa.Il Go.Proofs.Ytljpgbgokjiamaa.Sr
set_option linter.unusedSimpArgs false
set_option linter.unusedVariables false
attribute [local irreducible] AW SQ Step RO RC DE Thn InB
set_option maxHeartbeats 4000000 in
theorem l00Own_ro (xs : List Int) (hx : xs.length ≤ 1048576) (k : Nat) : RO Try.prog 24 [.dsl 1 (xs.map inL)] k (.sl k 0 xs.length) [(k, ⟨2, 1, true, xs.map inL⟩)] (k + 1) := by
  have hl : (xs.map inL).length = xs.length := List.length_map _
  have hp : ((xs.map inL).all fun r => r.all isV) = true := by simp [inL, isV]
  refine RO.ofm (.sl 0 0 xs.length) ([(0, ⟨2, 1, true, xs.map inL⟩)]) 1 Try.func24 Try.ntmps24 rfl (goFn_of Try.func24 rfl (by kernel_rfl)) rfl rfl (by simp [renA, renL]) (by simp [shH, renB]) rfl ?_
  ((repeat' (first
    | (show SQ _ _ _ _ _ _ _ _; first | apply sq_nil | (apply q_move; exact rfl; exact rfl) | (apply q_assign; exact rfl; exact rfl))
    | (show SQ _ _ _ _ _ _ _ _; (first | (apply q_build0; exact rfl; exact (ty rfl); exact rfl) | (apply q_apo_d; exact rfl; exact rfl; exact rfl; exact (ty rfl); exact rfl; exact rfl; exact (by first | omega | (simp; done) | (simp; omega)); exact (by first | exact List.take_of_length_le (by first | omega | (simp; done) | (simp; omega)) | rfl); exact (ty rfl); exact rfl; exact rfl; exact (by first | omega | (simp; done) | (simp; omega)); exact (by first | omega | (simp; done) | (simp; omega)); exact (by first | assumption | exact rfl))); (try simp only [put, rowsOf, plR, List.all_cons, selE, ovr, setH, del, cellsA, splice, isV, List.nil_append, List.cons_append, List.map_cons, List.map_nil, List.length_cons, List.length_nil, List.set_cons_zero, List.set_cons_succ, List.take_succ_cons, List.take_zero, List.take_nil, List.drop_succ_cons, List.drop_zero, List.drop_nil, List.append_nil, List.all_cons, List.all_nil, Bool.and_true, Bool.true_and, Bool.and_false, Bool.false_and, Nat.reduceAdd, Nat.zero_add, Nat.add_zero, Nat.reduceEqDiff, if_true, if_false, reduceIte]))
    | (show AW _ _ _ _ _ _ _ _; first | refine aw_region ?_ | (refine aw_seqk ?_; intro K hK) | refine aw_ret ?_)
    | refine thn_n ?_
    | (refine hK _ _ _ ?_; clear hK K))); all_goals (repeat (clear hK K)))
  all_goals exact fin_r (fin_m rfl rfl _ _ (by simp) (by simp))
def Pr (bs : List Int) (a b : Ras) : Prop :=
  (∀ k, RC Try.prog 5 [.dsl 1 (byL bs)] [] k (.tup [.agg (rasL a), .agg (rasL b)]) [] k) ∨
  (∀ k, RC Try.prog 5 [.dsl 1 (byL bs)] [] k (.tup [.agg (rasL a), .agg [.v (.int .i64 b.st), .v (.int .i64 b.wd), .v (.int .i64 b.ht), .sl k 0 b.sv.length, .sl (k + 1) 0 b.lv.length]]) [(k, some ⟨2, 1, true, b.sv.map inL⟩), (k + 1, some ⟨2, 1, true, b.lv.map inL⟩)] (k + 2))
def dcS (σ : Sr × List Int × List Int) (i : Nat) : Sr × List Int × List Int :=
  if (pk σ.1 5).1 = 0 then ((pk σ.1 5).2, σ.2.1.set i (-1), σ.2.2.set i (-300000))
  else if (pk σ.1 5).1 = 1 then ((pk (pk (pk σ.1 5).2 4).2 60).2, σ.2.1.set i (pk (pk σ.1 5).2 4).1, σ.2.2.set i (IntKind.i64.wrap (-60000 - IntKind.i64.wrap ((pk (pk (pk σ.1 5).2 4).2 60).1 * 1000))))
  else ((pk σ.1 5).2, σ.2.1, σ.2.2)
def dcF (s : Sr) (A C : List Int) : Nat → Sr × List Int × List Int
  | 0 => (s, A, C)
  | i + 1 => dcS (dcF s A C i) i
theorem dcF_ok {s : Sr} {A C : List Int} {k : Int} (h : s.ok k) : ∀ i : Nat, (dcF s A C i).1.ok (k + 6 * i) ∧ (dcF s A C i).2.1.length = A.length ∧ (dcF s A C i).2.2.length = C.length
  | 0 => ⟨h.mono (by omega), rfl, rfl⟩
  | i + 1 => by
    obtain ⟨h1, h2, h3⟩ := dcF_ok (A := A) (C := C) h i
    unfold dcF dcS
    split
    · exact ⟨(pk_ok 5 h1).mono (by omega), by rw [List.length_set]; exact h2, by rw [List.length_set]; exact h3⟩
    · split
      · exact ⟨(pk_ok 60 (pk_ok 4 (pk_ok 5 h1))).mono (by omega), by rw [List.length_set]; exact h2, by rw [List.length_set]; exact h3⟩
      · exact ⟨(pk_ok 5 h1).mono (by omega), h2, h3⟩
theorem DrawCompare_no (bs : List Int) (a : Ras) (s1 s2 : Sr) (p : Int) (k : Nat) (N : Nat) (k2 : Int) (h1 : Lk ⟨bs, 0, 0⟩ 0 a s1) (o2 : ∀ b j, RC Try.prog 23 [.ptr b 0 0, .v (.int .i64 5)] [(b, ⟨75, 3, false, [srR s1]⟩)] j (.v (.bool (p == 0))) [(b, some ⟨75, 3, false, [srR s2]⟩)] j)
    (hok : s2.ok k2) (hk2 : k2 ≤ 1000) (hp : (p == 0) = false) (hN : N = min a.sv.length a.lv.length) :
    RC Try.prog 5 [.dsl 1 (byL bs)] [] k (.tup [.agg (rasL a), .agg [.v (.int .i64 a.st), .v (.int .i64 a.wd), .v (.int .i64 a.ht), .sl k 0 a.sv.length, .sl (k + 1) 0 a.lv.length]]) [(k, some ⟨2, 1, true, (dcF s2 a.sv a.lv N).2.1.map inL⟩), (k + 1, some ⟨2, 1, true, (dcF s2 a.sv a.lv N).2.2.map inL⟩)] (k + 2) := by
    have n1 := h1.n
    have n2 := h1.m
    have hF := dcF_ok (A := a.sv) (C := a.lv) hok
    have hA := l00Own_ro a.sv (by omega)
    have hC := l00Own_ro a.lv (by omega)
    have lA : (a.sv.map inL).length = a.sv.length := List.length_map _
    have lC : (a.lv.map inL).length = a.lv.length := List.length_map _
    have r1 := fun j => h1.rc j 2
    unfold rasL at r1 ⊢
    refine RC.ofc [] 2 [.dsl 1 (byL bs)] [] (.tup [.agg [.v (.int .i64 a.st), .v (.int .i64 a.wd), .v (.int .i64 a.ht), .dsl 1 (a.sv.map inL), .dsl 1 (a.lv.map inL)], .agg [.v (.int .i64 a.st), .v (.int .i64 a.wd), .v (.int .i64 a.ht), .sl 0 0 a.sv.length, .sl 1 0 a.lv.length]]) [(0, some ⟨2, 1, true, (dcF s2 a.sv a.lv N).2.1.map inL⟩), (1, some ⟨2, 1, true, (dcF s2 a.sv a.lv N).2.2.map inL⟩)] Try.func5 Try.ntmps5 rfl (goFn_of Try.func5 rfl (by kernel_rfl)) rfl rfl rfl rfl rfl rfl rfl rfl (by simp_all) rfl ?_
    ((repeat' (first
    | (show SQ _ _ _ _ _ _ _ _; first | apply sq_nil | (apply q_move; exact rfl; exact rfl) | (apply q_assign; exact rfl; exact rfl))
    | (show SQ _ _ _ _ _ _ _ _; (first | (apply q_alloc; exact rfl; exact (ty rfl); exact rfl; exact rfl) | (apply q_store; exact rfl; exact rfl; exact (ty rfl); exact rfl; exact (by first | rfl | assumption | ((try simp only [Nat.zero_add]); refine List.getElem?_set_self ?_; (try simp only [List.length_set]); assumption)); exact rfl; exact rfl; exact rfl) | (apply q_callC; exact rfl; exact rfl; exact rfl; exact l00From_rc bs _; (focus ((repeat (first | exact trivial | refine ⟨by first | exact rfl | assumption, ?_⟩)); done)); skip) | (apply q_callC; exact rfl; exact rfl; exact rfl; exact r1 _; (focus ((repeat (first | exact trivial | refine ⟨by first | exact rfl | assumption, ?_⟩)); done)); skip) | (apply q_callC; exact rfl; exact rfl; exact rfl; exact o2 2 _; (focus ((repeat (first | exact trivial | refine ⟨by first | exact rfl | assumption, ?_⟩)); done)); skip)); (try simp only [put, rowsOf, plR, List.all_cons, selE, ovr, setH, del, cellsA, splice, isV, List.nil_append, List.cons_append, List.map_cons, List.map_nil, List.length_cons, List.length_nil, List.set_cons_zero, List.set_cons_succ, List.take_succ_cons, List.take_zero, List.take_nil, List.drop_succ_cons, List.drop_zero, List.drop_nil, List.append_nil, List.all_cons, List.all_nil, Bool.and_true, Bool.true_and, Bool.and_false, Bool.false_and, Nat.reduceAdd, Nat.zero_add, Nat.add_zero, Nat.reduceEqDiff, if_true, if_false, reduceIte]))
    | (show DE _ _ _ _ _ _ _ _ _ _ _ _; first | (apply e_fieldAddr; exact rfl; exact rfl; exact (ty rfl); exact rfl; exact rfl; exact rfl; exact rfl; exact rfl) | (apply e_ld1p; exact rfl; exact rfl; exact (ty rfl); exact rfl; exact rfl; exact (by first | rfl | assumption | ((try simp only [Nat.zero_add]); refine List.getElem?_set_self ?_; (try simp only [List.length_set]); assumption)); exact rfl; exact rfl) | (apply e_build; exact rfl; exact (ty rfl); exact rfl; exact rfl; exact rfl; exact rfl))
    | (show DE _ _ _ _ _ _ _ _ _ _ _ _; (first | (apply dr_nil; exact trivial) | (apply e_alloc; exact rfl; exact (ty rfl); exact rfl; exact rfl; exact rfl) | (apply e_store; exact rfl; exact rfl; exact (ty rfl); exact rfl; exact (by first | rfl | assumption | ((try simp only [Nat.zero_add]); refine List.getElem?_set_self ?_; (try simp only [List.length_set]); assumption)); exact rfl; exact rfl; exact rfl; exact rfl) | (apply e_callU; exact rfl; exact rfl; exact rfl; exact FzL.of rfl; exact hA _; exact rfl) | (apply e_callU; exact rfl; exact rfl; exact rfl; exact FzL.of rfl; exact hC _; exact rfl)); (try simp only [put, rowsOf, plR, List.all_cons, selE, ovr, setH, del, cellsA, splice, isV, List.nil_append, List.cons_append, List.map_cons, List.map_nil, List.length_cons, List.length_nil, List.set_cons_zero, List.set_cons_succ, List.take_succ_cons, List.take_zero, List.take_nil, List.drop_succ_cons, List.drop_zero, List.drop_nil, List.append_nil, List.all_cons, List.all_nil, Bool.and_true, Bool.true_and, Bool.and_false, Bool.false_and, Nat.reduceAdd, Nat.zero_add, Nat.add_zero, Nat.reduceEqDiff, if_true, if_false, reduceIte]))
    | (show AW _ _ _ _ _ _ _ _; first | refine aw_region ?_ | (refine aw_seqk ?_; intro K hK) | refine aw_block ?_ | (apply aw_cond_f; exact rfl; exact (by assumption)) | refine aw_skip ?_ | refine aw_drawE (id := 6) [0, 1, 0, 4, 0, 16, 0, 64, 192, 0, 512, 1984, 4095, 0, 16383] [0, 1, 0, 1, 0, 1, 0, 1, 1, 0, 1, 1, 0, 1, 2] mixed (by kernel_rfl) ?_)
    | refine thn_n ?_
    | (refine hK _ _ _ ?_; clear hK K))); all_goals (repeat (clear hK K)))
    refine aw_loop (ρ := id) (ι := Nat) (fun i => ([(8, .v (.int .i64 i)), (7, .ptr 6 0 0), (5, .ptr 3 0 0), (4, .ptr 2 0 0), (3, .ptr 1 0 0), (2, .ptr 0 0 0)],
        [(0, ⟨26, 5, false, [[.v (.int .i64 0), .v (.int .i64 0), .v (.int .i64 0), .v (.slice none 0 0), .v (.slice none 0 0)]]⟩), (1, ⟨26, 5, false, [[.v (.int .i64 0), .v (.int .i64 0), .v (.int .i64 0), .v (.slice none 0 0), .v (.slice none 0 0)]]⟩), (2, ⟨75, 3, false, [srR (dcF s2 a.sv a.lv i).1]⟩),
         (3, ⟨26, 5, false, [[.v (.int .i64 a.st), .v (.int .i64 a.wd), .v (.int .i64 a.ht), .dsl 1 (a.sv.map inL), .dsl 1 (a.lv.map inL)]]⟩),
         (4, ⟨2, 1, true, (dcF s2 a.sv a.lv i).2.1.map inL⟩), (5, ⟨2, 1, true, (dcF s2 a.sv a.lv i).2.2.map inL⟩),
         (6, ⟨26, 5, false, [[.v (.int .i64 a.st), .v (.int .i64 a.wd), .v (.int .i64 a.ht), .sl 4 0 a.sv.length, .sl 5 0 a.lv.length]]⟩)], 7))
      (fun i => i ≤ N) (fun i => N - i) 0 (Nat.zero_le _) ⟨by (repeat (refine ⟨by first | exact lk_i rfl rfl | exact lk_r rfl rfl rfl, ?_⟩)); exact trivial, by (repeat (refine ⟨by first | exact ⟨rfl, rfl, rfl⟩, ?_⟩)); exact trivial, by rfl, by exact pin_0⟩ ?_
    intro i hi
    by_cases c1 : i < N
    · have b1 : decide ((i : Int) < (a.sv.length : Int)) = true := by simp; omega
      have b2 : decide ((i : Int) < (a.lv.length : Int)) = true := by simp; omega
      have hw : IntKind.i64.wrap ((i : Int) + 1) = ((i + 1 : Nat) : Int) := by rw [IntWalk.i64_in _ (by omega)]; omega
      obtain ⟨q1, q2, q3⟩ := hF i
      have hS : dcF s2 a.sv a.lv (i + 1) = dcS (dcF s2 a.sv a.lv i) i := rfl
      generalize dcF s2 a.sv a.lv i = σ at *
      obtain ⟨s6, A, C⟩ := σ
      dsimp only at q1 q2 q3 ⊢
      have oX := fun j => pick_rc 2 s6 5 (q1.mono (by omega)) (by omega) j
      have o4 := pk_ok 5 q1
      unfold dcS at hS
      dsimp only at hS
      have cA : i < A.length := by omega
      have cC : i < C.length := by omega
      have hrA : (A.map inL)[0 + ((i : Int)).toNat]? = some [.v (.int .i64 A[i])] := by rw [Nat.zero_add]; exact inL_get cA
      have hrC : (C.map inL)[0 + ((i : Int)).toNat]? = some [.v (.int .i64 C[i])] := by rw [Nat.zero_add]; exact inL_get cC
      generalize pk s6 5 = z1 at *
      by_cases e0 : z1.1 = 0
      · have d0 : (z1.1 == 0) = true := by simpa using e0
        rw [if_pos e0] at hS
        ((repeat' (first
    | (show SQ _ _ _ _ _ _ _ _; first | apply sq_nil | (apply q_move; exact rfl; exact rfl) | (apply q_assign; exact rfl; exact rfl) | (apply q_pick_t; exact rfl; exact rfl; exact rfl; exact (by first | assumption | exact rfl)) | (apply q_fieldAddr; exact rfl; exact rfl; exact (ty rfl); exact rfl; exact rfl; exact rfl; exact rfl) | (apply q_lenl; exact rfl; exact rfl; exact (ty rfl); exact rfl) | (apply q_add; exact rfl; exact rfl; exact rfl) | (apply q_eql; exact rfl; exact rfl; exact rfl) | (apply q_lss; exact rfl; exact rfl; exact rfl) | (apply q_ixl; exact rfl; exact rfl; exact rfl; exact (ty rfl); exact rfl; exact rfl; exact rfl; exact (by first | omega | (simp; done) | (simp; omega)); exact (by first | omega | (simp; done) | (simp; omega))) | (apply q_ld1p; exact rfl; exact rfl; exact (ty rfl); exact rfl; exact rfl; exact (by first | rfl | assumption | ((try simp only [Nat.zero_add]); refine List.getElem?_set_self ?_; (try simp only [List.length_set]); assumption)); exact rfl) | (apply q_g; exact rfl; exact rfl; exact rfl; exact (by assumption)))
    | (show SQ _ _ _ _ _ _ _ _; (first | (apply q_store; exact rfl; exact rfl; exact (ty rfl); exact rfl; exact (by first | rfl | assumption | ((try simp only [Nat.zero_add]); refine List.getElem?_set_self ?_; (try simp only [List.length_set]); assumption)); exact rfl; exact rfl; exact rfl) | (apply q_callC; exact rfl; exact rfl; exact rfl; exact oX _; (focus ((repeat (first | exact trivial | refine ⟨by first | exact rfl | assumption, ?_⟩)); done)); skip)); (try simp only [put, rowsOf, plR, List.all_cons, selE, ovr, setH, del, cellsA, splice, isV, List.nil_append, List.cons_append, List.map_cons, List.map_nil, List.length_cons, List.length_nil, List.set_cons_zero, List.set_cons_succ, List.take_succ_cons, List.take_zero, List.take_nil, List.drop_succ_cons, List.drop_zero, List.drop_nil, List.append_nil, List.all_cons, List.all_nil, Bool.and_true, Bool.true_and, Bool.and_false, Bool.false_and, Nat.reduceAdd, Nat.zero_add, Nat.add_zero, Nat.reduceEqDiff, if_true, if_false, reduceIte]))
    | (show AW _ _ _ _ _ _ _ _; first | refine aw_region ?_ | (refine aw_seqk ?_; intro K hK) | refine aw_block ?_ | (apply aw_cond_t; exact rfl; exact (by assumption)) | refine aw_skip ?_)
    | refine thn_n ?_
    | (refine hK _ _ _ ?_; clear hK K)
    | refine inb_n ?_)); all_goals (repeat (clear hK K)))
        refine ⟨i + 1, id, c1, by omega, ?_⟩
        (try dsimp only); rw [hS, ← hw]
        exact ⟨by (repeat (refine ⟨by first | exact lk_i rfl rfl | exact lk_r rfl rfl rfl, ?_⟩)); exact trivial, by (repeat (refine ⟨by first | exact ⟨rfl, rfl, rfl⟩ | exact lkb rfl rfl rfl (by first | rfl | (simp [inL]; done)) rfl, ?_⟩)); exact trivial, by rfl, by exact pin_0⟩
      · have d0 : (z1.1 == 0) = false := by simpa using e0
        rw [if_neg e0] at hS
        by_cases e1 : z1.1 = 1
        · have d1 : (z1.1 == 1) = true := by simpa using e1
          rw [if_pos e1] at hS
          have oP := fun j => pick_rc 2 z1.2 4 (o4.mono (by omega)) (by omega) j
          have o5 := pk_ok 4 o4
          have oQ := fun j => pick_rc 2 (pk z1.2 4).2 60 (o5.mono (by omega)) (by omega) j
          generalize (pk (pk z1.2 4).2 60) = z3 at *
          generalize (pk z1.2 4) = z2 at *
          have sA : (A.map inL).set (0 + ((i : Int)).toNat) [.v (.int .i64 z2.1)] = (A.set i z2.1).map inL := by rw [Nat.zero_add, Int.toNat_natCast]; exact setI _ _ _
          generalize hv : IntKind.i64.wrap (-60000 - IntKind.i64.wrap (z3.1 * 1000)) = v at hS
          have sC : (C.map inL).set (0 + ((i : Int)).toNat) [.v (.int .i64 v)] = (C.set i v).map inL := by rw [Nat.zero_add, Int.toNat_natCast]; exact setI _ _ _
          ((repeat' (first
    | (show SQ _ _ _ _ _ _ _ _; first | apply sq_nil | (apply q_move; exact rfl; exact rfl) | (apply q_assign; exact rfl; exact rfl) | (apply q_pick_t; exact rfl; exact rfl; exact rfl; exact (by first | assumption | exact rfl)) | (apply q_fieldAddr; exact rfl; exact rfl; exact (ty rfl); exact rfl; exact rfl; exact rfl; exact rfl) | (apply q_lenl; exact rfl; exact rfl; exact (ty rfl); exact rfl) | (apply q_eql; exact rfl; exact rfl; exact rfl) | (apply q_lss; exact rfl; exact rfl; exact rfl) | (apply q_ld1p; exact rfl; exact rfl; exact (ty rfl); exact rfl; exact rfl; exact (by first | rfl | assumption | ((try simp only [Nat.zero_add]); refine List.getElem?_set_self ?_; (try simp only [List.length_set]); assumption)); exact rfl) | (apply q_g; exact rfl; exact rfl; exact rfl; exact (by assumption)))
    | (show SQ _ _ _ _ _ _ _ _; (first | (apply q_callC; exact rfl; exact rfl; exact rfl; exact oX _; (focus ((repeat (first | exact trivial | refine ⟨by first | exact rfl | assumption, ?_⟩)); done)); skip)); (try simp only [put, rowsOf, plR, List.all_cons, selE, ovr, setH, del, cellsA, splice, isV, List.nil_append, List.cons_append, List.map_cons, List.map_nil, List.length_cons, List.length_nil, List.set_cons_zero, List.set_cons_succ, List.take_succ_cons, List.take_zero, List.take_nil, List.drop_succ_cons, List.drop_zero, List.drop_nil, List.append_nil, List.all_cons, List.all_nil, Bool.and_true, Bool.true_and, Bool.and_false, Bool.false_and, Nat.reduceAdd, Nat.zero_add, Nat.add_zero, Nat.reduceEqDiff, if_true, if_false, reduceIte]))
    | (show DE _ _ _ _ _ _ _ _ _ _ _ _; first | (apply e_move; exact rfl; exact rfl; exact rfl) | (apply e_fieldAddr; exact rfl; exact rfl; exact (ty rfl); exact rfl; exact rfl; exact rfl; exact rfl; exact rfl) | (apply e_ixl; exact rfl; exact rfl; exact rfl; exact (ty rfl); exact rfl; exact rfl; exact rfl; exact (by first | omega | (simp; done) | (simp; omega)); exact (by first | omega | (simp; done) | (simp; omega)); exact rfl))
    | (show DE _ _ _ _ _ _ _ _ _ _ _ _; (first | (apply e_rd1; exact rfl; exact rfl; exact (ty rfl); exact rfl; exact rfl; exact (by first | rfl | assumption | ((try simp only [Nat.zero_add]); refine List.getElem?_set_self ?_; (try simp only [List.length_set]); assumption)); exact rfl; exact rfl; exact rfl) | (apply e_callC; exact rfl; exact rfl; exact rfl; exact oP _; (focus ((repeat (first | exact trivial | refine ⟨by first | exact rfl | assumption, ?_⟩)); done)); exact rfl; skip)); (try simp only [put, rowsOf, plR, List.all_cons, selE, ovr, setH, del, cellsA, splice, isV, List.nil_append, List.cons_append, List.map_cons, List.map_nil, List.length_cons, List.length_nil, List.set_cons_zero, List.set_cons_succ, List.take_succ_cons, List.take_zero, List.take_nil, List.drop_succ_cons, List.drop_zero, List.drop_nil, List.append_nil, List.all_cons, List.all_nil, Bool.and_true, Bool.true_and, Bool.and_false, Bool.false_and, Nat.reduceAdd, Nat.zero_add, Nat.add_zero, Nat.reduceEqDiff, if_true, if_false, reduceIte]))
    | (show AW _ _ _ _ _ _ _ _; first | refine aw_region ?_ | (refine aw_seqk ?_; intro K hK) | refine aw_block ?_ | (apply aw_cond_t; exact rfl; exact (by assumption)) | (apply aw_cond_f; exact rfl; exact (by assumption)) | refine aw_skip ?_ | refine aw_drawE (id := 15) [0, 1, 0, 0, 8, 31, 63] [0, 0, 0, 0, 2, 1, 2, 1, 6] mixed (by kernel_rfl) ?_)
    | refine thn_n ?_
    | (refine hK _ _ _ ?_; clear hK K))); all_goals (repeat (clear hK K)))
          apply e_store; exact rfl; exact rfl; exact (ty rfl); exact rfl; exact hrA; exact rfl; exact rfl; exact rfl; exact rfl
          apply dr_nil
          · exact ⟨⟨trivial, trivial, trivial⟩, trivial⟩
          (try dsimp only [put, rowsOf, plR, selE, ovr, setH, del, cellsA, splice, isV, List.all_cons, List.all_nil, List.nil_append, List.cons_append, List.set_cons_zero, List.take_zero, List.take_nil, List.drop_succ_cons, List.drop_zero, List.drop_nil, List.append_nil, Bool.and_true, Bool.true_and, if_true, if_false])
          ((repeat' (first
    | (show DE _ _ _ _ _ _ _ _ _ _ _ _; first | (apply e_move; exact rfl; exact rfl; exact rfl) | (apply e_fieldAddr; exact rfl; exact rfl; exact (ty rfl); exact rfl; exact rfl; exact rfl; exact rfl; exact rfl) | (apply e_sub; exact rfl; exact rfl; exact rfl; exact rfl) | (apply e_mul; exact rfl; exact rfl; exact rfl; exact rfl) | (apply e_ixl; exact rfl; exact rfl; exact rfl; exact (ty rfl); exact rfl; exact rfl; exact rfl; exact (by first | omega | (simp; done) | (simp; omega)); exact (by first | omega | (simp; done) | (simp; omega)); exact rfl))
    | (show DE _ _ _ _ _ _ _ _ _ _ _ _; (first | (apply e_rd1; exact rfl; exact rfl; exact (ty rfl); exact rfl; exact rfl; exact (by first | rfl | assumption | ((try simp only [Nat.zero_add]); refine List.getElem?_set_self ?_; (try simp only [List.length_set]); assumption)); exact rfl; exact rfl; exact rfl) | (apply e_callC; exact rfl; exact rfl; exact rfl; exact oQ _; (focus ((repeat (first | exact trivial | refine ⟨by first | exact rfl | assumption, ?_⟩)); done)); exact rfl; skip)); (try simp only [put, rowsOf, plR, List.all_cons, selE, ovr, setH, del, cellsA, splice, isV, List.nil_append, List.cons_append, List.map_cons, List.map_nil, List.length_cons, List.length_nil, List.set_cons_zero, List.set_cons_succ, List.take_succ_cons, List.take_zero, List.take_nil, List.drop_succ_cons, List.drop_zero, List.drop_nil, List.append_nil, List.all_cons, List.all_nil, Bool.and_true, Bool.true_and, Bool.and_false, Bool.false_and, Nat.reduceAdd, Nat.zero_add, Nat.add_zero, Nat.reduceEqDiff, if_true, if_false, reduceIte]))
    | (show AW _ _ _ _ _ _ _ _; first | refine aw_drawE (id := 16) [0, 1, 0, 0, 8, 24, 56, 127, 255] [0, 0, 0, 0, 2, 0, 0, 1, 2, 1, 6] mixed (by kernel_rfl) ?_)
    | refine thn_n ?_
    | (refine hK _ _ _ ?_; clear hK K))); all_goals (repeat (clear hK K)))
          apply e_store; exact rfl; exact rfl; exact (ty rfl); exact rfl; exact hrC; exact rfl; exact rfl; exact rfl; exact rfl
          apply dr_nil
          · exact ⟨⟨trivial, trivial, trivial⟩, trivial⟩
          (try dsimp only [put, rowsOf, plR, selE, ovr, setH, del, cellsA, splice, isV, List.all_cons, List.all_nil, List.nil_append, List.cons_append, List.set_cons_zero, List.take_zero, List.take_nil, List.drop_succ_cons, List.drop_zero, List.drop_nil, List.append_nil, Bool.and_true, Bool.true_and, if_true, if_false])
          ((repeat' (first
    | (show SQ _ _ _ _ _ _ _ _; first | apply sq_nil | (apply q_move; exact rfl; exact rfl) | (apply q_assign; exact rfl; exact rfl) | (apply q_add; exact rfl; exact rfl; exact rfl))
    | (show AW _ _ _ _ _ _ _ _; first | refine aw_region ?_)
    | refine thn_n ?_
    | (refine hK _ _ _ ?_; clear hK K)
    | refine inb_n ?_)); all_goals (repeat (clear hK K)))
          refine ⟨i + 1, id, c1, by omega, ?_⟩
          (try dsimp only); rw [hS, ← hw, ← hv]
          exact ⟨by (repeat (refine ⟨by first | exact lk_i rfl rfl | exact lk_r rfl rfl rfl, ?_⟩)); exact trivial, by (repeat (refine ⟨by first | exact ⟨rfl, rfl, rfl⟩ | exact lkb rfl rfl rfl (by first | rfl | (simp [inL]; done)) rfl, ?_⟩)); exact trivial, by rfl, by exact pin_0⟩
        · have d1 : (z1.1 == 1) = false := by simpa using e1
          rw [if_neg e1] at hS
          ((repeat' (first
    | (show SQ _ _ _ _ _ _ _ _; first | apply sq_nil | (apply q_move; exact rfl; exact rfl) | (apply q_assign; exact rfl; exact rfl) | (apply q_pick_t; exact rfl; exact rfl; exact rfl; exact (by first | assumption | exact rfl)) | (apply q_fieldAddr; exact rfl; exact rfl; exact (ty rfl); exact rfl; exact rfl; exact rfl; exact rfl) | (apply q_lenl; exact rfl; exact rfl; exact (ty rfl); exact rfl) | (apply q_add; exact rfl; exact rfl; exact rfl) | (apply q_eql; exact rfl; exact rfl; exact rfl) | (apply q_lss; exact rfl; exact rfl; exact rfl) | (apply q_ld1p; exact rfl; exact rfl; exact (ty rfl); exact rfl; exact rfl; exact (by first | rfl | assumption | ((try simp only [Nat.zero_add]); refine List.getElem?_set_self ?_; (try simp only [List.length_set]); assumption)); exact rfl) | (apply q_g; exact rfl; exact rfl; exact rfl; exact (by assumption)))
    | (show SQ _ _ _ _ _ _ _ _; (first | (apply q_callC; exact rfl; exact rfl; exact rfl; exact oX _; (focus ((repeat (first | exact trivial | refine ⟨by first | exact rfl | assumption, ?_⟩)); done)); skip)); (try simp only [put, rowsOf, plR, List.all_cons, selE, ovr, setH, del, cellsA, splice, isV, List.nil_append, List.cons_append, List.map_cons, List.map_nil, List.length_cons, List.length_nil, List.set_cons_zero, List.set_cons_succ, List.take_succ_cons, List.take_zero, List.take_nil, List.drop_succ_cons, List.drop_zero, List.drop_nil, List.append_nil, List.all_cons, List.all_nil, Bool.and_true, Bool.true_and, Bool.and_false, Bool.false_and, Nat.reduceAdd, Nat.zero_add, Nat.add_zero, Nat.reduceEqDiff, if_true, if_false, reduceIte]))
    | (show AW _ _ _ _ _ _ _ _; first | refine aw_region ?_ | (refine aw_seqk ?_; intro K hK) | refine aw_block ?_ | (apply aw_cond_t; exact rfl; exact (by assumption)) | (apply aw_cond_f; exact rfl; exact (by assumption)) | refine aw_skip ?_)
    | refine thn_n ?_
    | (refine hK _ _ _ ?_; clear hK K)
    | refine inb_n ?_)); all_goals (repeat (clear hK K)))
          refine ⟨i + 1, id, c1, by omega, ?_⟩
          (try dsimp only); rw [hS, ← hw]
          exact ⟨by (repeat (refine ⟨by first | exact lk_i rfl rfl | exact lk_r rfl rfl rfl, ?_⟩)); exact trivial, by (repeat (refine ⟨by first | exact ⟨rfl, rfl, rfl⟩, ?_⟩)); exact trivial, by rfl, by exact pin_0⟩
    · obtain rfl : i = N := by omega
      by_cases c2 : i < a.sv.length
      · have b1 : decide ((i : Int) < (a.sv.length : Int)) = true := by (simp; omega)
        have b2 : decide ((i : Int) < (a.sv.length : Int)) = true → decide ((i : Int) < (a.lv.length : Int)) = false := fun h => by simp at h ⊢; omega
        have b2 := b2
        first
          | (have b3 := b2 b1
             ((repeat' (first
    | (show SQ _ _ _ _ _ _ _ _; first | apply sq_nil | (apply q_move; exact rfl; exact rfl) | (apply q_pick_t; exact rfl; exact rfl; exact rfl; exact (by first | assumption | exact rfl)) | (apply q_fieldAddr; exact rfl; exact rfl; exact (ty rfl); exact rfl; exact rfl; exact rfl; exact rfl) | (apply q_lenl; exact rfl; exact rfl; exact (ty rfl); exact rfl) | (apply q_lss; exact rfl; exact rfl; exact rfl) | (apply q_ld1p; exact rfl; exact rfl; exact (ty rfl); exact rfl; exact rfl; exact (by first | rfl | assumption | ((try simp only [Nat.zero_add]); refine List.getElem?_set_self ?_; (try simp only [List.length_set]); assumption)); exact rfl) | (apply q_g; exact rfl; exact rfl; exact rfl; exact (by assumption)))
    | (show DE _ _ _ _ _ _ _ _ _ _ _ _; (first | (apply dr_nil; (focus ((repeat (first | exact trivial | exact Or.inr rfl | exact Or.inl (by kernel_rfl) | apply And.intro)); done))) | (apply e_rda; exact rfl; exact rfl; exact (ty rfl); exact rfl; exact rfl; exact (by first | rfl | assumption | ((try simp only [Nat.zero_add]); refine List.getElem?_set_self ?_; (try simp only [List.length_set]); assumption)); exact rfl; exact rfl; exact rfl) | (apply e_ldap; exact rfl; exact rfl; exact (ty rfl); exact rfl; exact rfl; exact (by first | rfl | assumption | ((try simp only [Nat.zero_add]); refine List.getElem?_set_self ?_; (try simp only [List.length_set]); assumption)); exact rfl; exact rfl) | (apply e_store; exact rfl; exact rfl; exact (ty rfl); exact rfl; exact (by first | rfl | assumption | ((try simp only [Nat.zero_add]); refine List.getElem?_set_self ?_; (try simp only [List.length_set]); assumption)); exact rfl; exact rfl; exact rfl; exact rfl)); (try simp only [put, rowsOf, plR, List.all_cons, selE, ovr, setH, del, cellsA, splice, isV, List.nil_append, List.cons_append, List.map_cons, List.map_nil, List.length_cons, List.length_nil, List.set_cons_zero, List.set_cons_succ, List.take_succ_cons, List.take_zero, List.take_nil, List.drop_succ_cons, List.drop_zero, List.drop_nil, List.append_nil, List.all_cons, List.all_nil, Bool.and_true, Bool.true_and, Bool.and_false, Bool.false_and, Nat.reduceAdd, Nat.zero_add, Nat.add_zero, Nat.reduceEqDiff, if_true, if_false, reduceIte]))
    | (show AW _ _ _ _ _ _ _ _; first | refine aw_region ?_ | (refine aw_seqk ?_; intro K hK) | (apply aw_cond_f; exact rfl; exact (by assumption)) | refine aw_ret ?_ | refine aw_exit ?_ | refine aw_drawE (id := 17) [0, 0, 1, 7] [1, 0, 2, 2, 1, 6] mixed (by kernel_rfl) ?_)
    | refine thn_n ?_
    | (refine hK _ _ _ ?_; clear hK K)
    | refine thn_e ?_
    | refine inb_same ?_
    | (clear hK K; refine hK _ _ _ ?_; clear hK K))); all_goals (repeat (clear hK K)))
             exact finc (fun i => [4, 5].getD i 0) (.r2 _ _ _ _ (.agg _ _ _ _ _ rfl (.inr ⟨_, _, _, _, _, rfl, rfl, rfl, rfl⟩) (ty rfl) rfl (Nat.le_of_ble_eq_true rfl)) (.agg _ _ _ _ _ rfl (.inr ⟨_, _, _, _, _, rfl, rfl, rfl, rfl⟩) (ty rfl) rfl (Nat.le_of_ble_eq_true rfl))) rfl (fun i hi => absurd hi (Nat.not_lt_zero _)) ⟨rfl, rfl, trivial⟩ rfl)
          | ((all_goals (repeat (clear hK K)))
             exact finc (fun i => [4, 5].getD i 0) (.r2 _ _ _ _ (.agg _ _ _ _ _ rfl (.inr ⟨_, _, _, _, _, rfl, rfl, rfl, rfl⟩) (ty rfl) rfl (Nat.le_of_ble_eq_true rfl)) (.agg _ _ _ _ _ rfl (.inr ⟨_, _, _, _, _, rfl, rfl, rfl, rfl⟩) (ty rfl) rfl (Nat.le_of_ble_eq_true rfl))) rfl (fun i hi => absurd hi (Nat.not_lt_zero _)) ⟨rfl, rfl, trivial⟩ rfl)
      · have b1 : decide ((i : Int) < (a.sv.length : Int)) = false := by (simp; omega)
        have b2 : decide ((i : Int) < (a.sv.length : Int)) = true → decide ((i : Int) < (a.lv.length : Int)) = false := fun h => by simp at h ⊢; omega
        have b2 := b2
        first
          | (have b3 := b2 b1
             (all_goals (repeat (clear hK K)))
             exact finc (fun i => [4, 5].getD i 0) (.r2 _ _ _ _ (.agg _ _ _ _ _ rfl (.inr ⟨_, _, _, _, _, rfl, rfl, rfl, rfl⟩) (ty rfl) rfl (Nat.le_of_ble_eq_true rfl)) (.agg _ _ _ _ _ rfl (.inr ⟨_, _, _, _, _, rfl, rfl, rfl, rfl⟩) (ty rfl) rfl (Nat.le_of_ble_eq_true rfl))) rfl (fun i hi => absurd hi (Nat.not_lt_zero _)) ⟨rfl, rfl, trivial⟩ rfl)
          | (((repeat' (first
    | (show SQ _ _ _ _ _ _ _ _; first | apply sq_nil | (apply q_move; exact rfl; exact rfl) | (apply q_pick_f; exact rfl; exact rfl; exact rfl; exact (by first | assumption | exact rfl)) | (apply q_fieldAddr; exact rfl; exact rfl; exact (ty rfl); exact rfl; exact rfl; exact rfl; exact rfl) | (apply q_lenl; exact rfl; exact rfl; exact (ty rfl); exact rfl) | (apply q_lss; exact rfl; exact rfl; exact rfl) | (apply q_ld1p; exact rfl; exact rfl; exact (ty rfl); exact rfl; exact rfl; exact (by first | rfl | assumption | ((try simp only [Nat.zero_add]); refine List.getElem?_set_self ?_; (try simp only [List.length_set]); assumption)); exact rfl) | (apply q_s; exact rfl; exact rfl; exact rfl; exact (by assumption); exact rfl))
    | (show DE _ _ _ _ _ _ _ _ _ _ _ _; (first | (apply dr_nil; (focus ((repeat (first | exact trivial | exact Or.inr rfl | exact Or.inl (by kernel_rfl) | apply And.intro)); done))) | (apply e_rda; exact rfl; exact rfl; exact (ty rfl); exact rfl; exact rfl; exact (by first | rfl | assumption | ((try simp only [Nat.zero_add]); refine List.getElem?_set_self ?_; (try simp only [List.length_set]); assumption)); exact rfl; exact rfl; exact rfl) | (apply e_ldap; exact rfl; exact rfl; exact (ty rfl); exact rfl; exact rfl; exact (by first | rfl | assumption | ((try simp only [Nat.zero_add]); refine List.getElem?_set_self ?_; (try simp only [List.length_set]); assumption)); exact rfl; exact rfl) | (apply e_store; exact rfl; exact rfl; exact (ty rfl); exact rfl; exact (by first | rfl | assumption | ((try simp only [Nat.zero_add]); refine List.getElem?_set_self ?_; (try simp only [List.length_set]); assumption)); exact rfl; exact rfl; exact rfl; exact rfl)); (try simp only [put, rowsOf, plR, List.all_cons, selE, ovr, setH, del, cellsA, splice, isV, List.nil_append, List.cons_append, List.map_cons, List.map_nil, List.length_cons, List.length_nil, List.set_cons_zero, List.set_cons_succ, List.take_succ_cons, List.take_zero, List.take_nil, List.drop_succ_cons, List.drop_zero, List.drop_nil, List.append_nil, List.all_cons, List.all_nil, Bool.and_true, Bool.true_and, Bool.and_false, Bool.false_and, Nat.reduceAdd, Nat.zero_add, Nat.add_zero, Nat.reduceEqDiff, if_true, if_false, reduceIte]))
    | (show AW _ _ _ _ _ _ _ _; first | refine aw_region ?_ | (refine aw_seqk ?_; intro K hK) | (apply aw_cond_f; exact rfl; exact rfl) | refine aw_ret ?_ | refine aw_exit ?_ | refine aw_drawE (id := 17) [0, 0, 1, 7] [1, 0, 2, 2, 1, 6] mixed (by kernel_rfl) ?_)
    | refine thn_n ?_
    | (refine hK _ _ _ ?_; clear hK K)
    | refine thn_e ?_
    | refine inb_same ?_
    | (clear hK K; refine hK _ _ _ ?_; clear hK K))); all_goals (repeat (clear hK K)))
             exact finc (fun i => [4, 5].getD i 0) (.r2 _ _ _ _ (.agg _ _ _ _ _ rfl (.inr ⟨_, _, _, _, _, rfl, rfl, rfl, rfl⟩) (ty rfl) rfl (Nat.le_of_ble_eq_true rfl)) (.agg _ _ _ _ _ rfl (.inr ⟨_, _, _, _, _, rfl, rfl, rfl, rfl⟩) (ty rfl) rfl (Nat.le_of_ble_eq_true rfl))) rfl (fun i hi => absurd hi (Nat.not_lt_zero _)) ⟨rfl, rfl, trivial⟩ rfl)
theorem DrawCompare_ex (bs : List Int) (hb : ∀ b ∈ bs, 0 ≤ b ∧ b ≤ 255) (hn : bs.length ≤ 9223372036854775807) : ∃ a b, a.sm ∧ b.sm ∧ Pr bs a b := by
  have hok : (⟨bs, 0, 0⟩ : Sr).ok 0 := ⟨hb, by simp, by simp, hn⟩
  obtain ⟨a, s1, h1⟩ := l20Draw_ex hok (by omega)
  obtain ⟨p, s2, h2⟩ := pk_ex 5 h1.ok (by omega) (by omega) (by omega)
  have o2 := fun b j => one_rc b h2 j
  have n1 := h1.n
  have n2 := h1.m
  cases hp : (p == 0) with
  | true =>
    obtain ⟨b, s3, h3⟩ := l20Draw_ex h2.ok (by omega)
    have n3 := h3.n
    have n4 := h3.m
    refine ⟨a, b, ⟨by omega, by omega⟩, ⟨by omega, by omega⟩, .inl fun k => ?_⟩
    have r1 := fun j => h1.rc j 2
    have r3 := fun j => h3.rc j 2
    unfold rasL at r1 r3 ⊢
    refine RC.ofc [] 0 [.dsl 1 (byL bs)] [] (.tup [.agg [.v (.int .i64 a.st), .v (.int .i64 a.wd), .v (.int .i64 a.ht), .dsl 1 (a.sv.map inL), .dsl 1 (a.lv.map inL)], .agg [.v (.int .i64 b.st), .v (.int .i64 b.wd), .v (.int .i64 b.ht), .dsl 1 (b.sv.map inL), .dsl 1 (b.lv.map inL)]]) [] Try.func5 Try.ntmps5 rfl (goFn_of Try.func5 rfl (by kernel_rfl)) rfl rfl rfl rfl rfl rfl rfl rfl (by simp_all) rfl ?_
    ((repeat' (first
    | (show SQ _ _ _ _ _ _ _ _; first | apply sq_nil | (apply q_move; exact rfl; exact rfl) | (apply q_assign; exact rfl; exact rfl))
    | (show SQ _ _ _ _ _ _ _ _; (first | (apply q_alloc; exact rfl; exact (ty rfl); exact rfl; exact rfl) | (apply q_store; exact rfl; exact rfl; exact (ty rfl); exact rfl; exact (by first | rfl | assumption | ((try simp only [Nat.zero_add]); refine List.getElem?_set_self ?_; (try simp only [List.length_set]); assumption)); exact rfl; exact rfl; exact rfl) | (apply q_callC; exact rfl; exact rfl; exact rfl; exact l00From_rc bs _; (focus ((repeat (first | exact trivial | refine ⟨by first | exact rfl | assumption, ?_⟩)); done)); skip) | (apply q_callC; exact rfl; exact rfl; exact rfl; exact r1 _; (focus ((repeat (first | exact trivial | refine ⟨by first | exact rfl | assumption, ?_⟩)); done)); skip) | (apply q_callC; exact rfl; exact rfl; exact rfl; exact o2 2 _; (focus ((repeat (first | exact trivial | refine ⟨by first | exact rfl | assumption, ?_⟩)); done)); skip) | (apply q_callC; exact rfl; exact rfl; exact rfl; exact r3 _; (focus ((repeat (first | exact trivial | refine ⟨by first | exact rfl | assumption, ?_⟩)); done)); skip)); (try simp only [put, rowsOf, plR, List.all_cons, selE, ovr, setH, del, cellsA, splice, isV, List.nil_append, List.cons_append, List.map_cons, List.map_nil, List.length_cons, List.length_nil, List.set_cons_zero, List.set_cons_succ, List.take_succ_cons, List.take_zero, List.take_nil, List.drop_succ_cons, List.drop_zero, List.drop_nil, List.append_nil, List.all_cons, List.all_nil, Bool.and_true, Bool.true_and, Bool.and_false, Bool.false_and, Nat.reduceAdd, Nat.zero_add, Nat.add_zero, Nat.reduceEqDiff, if_true, if_false, reduceIte]))
    | (show DE _ _ _ _ _ _ _ _ _ _ _ _; (first | (apply dr_nil; (focus ((repeat (first | exact trivial | exact Or.inr rfl | exact Or.inl (by kernel_rfl) | apply And.intro)); done))) | (apply e_rda; exact rfl; exact rfl; exact (ty rfl); exact rfl; exact rfl; exact (by first | rfl | assumption | ((try simp only [Nat.zero_add]); refine List.getElem?_set_self ?_; (try simp only [List.length_set]); assumption)); exact rfl; exact rfl; exact rfl) | (apply e_ldap; exact rfl; exact rfl; exact (ty rfl); exact rfl; exact rfl; exact (by first | rfl | assumption | ((try simp only [Nat.zero_add]); refine List.getElem?_set_self ?_; (try simp only [List.length_set]); assumption)); exact rfl; exact rfl) | (apply e_store; exact rfl; exact rfl; exact (ty rfl); exact rfl; exact (by first | rfl | assumption | ((try simp only [Nat.zero_add]); refine List.getElem?_set_self ?_; (try simp only [List.length_set]); assumption)); exact rfl; exact rfl; exact rfl; exact rfl)); (try simp only [put, rowsOf, plR, List.all_cons, selE, ovr, setH, del, cellsA, splice, isV, List.nil_append, List.cons_append, List.map_cons, List.map_nil, List.length_cons, List.length_nil, List.set_cons_zero, List.set_cons_succ, List.take_succ_cons, List.take_zero, List.take_nil, List.drop_succ_cons, List.drop_zero, List.drop_nil, List.append_nil, List.all_cons, List.all_nil, Bool.and_true, Bool.true_and, Bool.and_false, Bool.false_and, Nat.reduceAdd, Nat.zero_add, Nat.add_zero, Nat.reduceEqDiff, if_true, if_false, reduceIte]))
    | (show AW _ _ _ _ _ _ _ _; first | refine aw_region ?_ | (refine aw_seqk ?_; intro K hK) | (apply aw_cond_t; exact rfl; exact (by assumption)) | refine aw_ret ?_ | refine aw_drawE (id := 5) [0, 0, 1, 7] [1, 0, 2, 2, 1, 4] mixed (by kernel_rfl) ?_)
    | refine thn_n ?_
    | (refine hK _ _ _ ?_; clear hK K)
    | refine thn_r ?_)); all_goals (repeat (clear hK K)))
    exact finc (fun i => i) (.r2 _ _ _ _ (.agg _ _ _ _ _ rfl (.inr ⟨_, _, _, _, _, rfl, rfl, rfl, rfl⟩) (ty rfl) rfl (Nat.le_of_ble_eq_true rfl)) (.agg _ _ _ _ _ rfl (.inr ⟨_, _, _, _, _, rfl, rfl, rfl, rfl⟩) (ty rfl) rfl (Nat.le_of_ble_eq_true rfl))) rfl (fun _ _ => rfl) trivial rfl
  | false =>
    have hF := dcF_ok (A := a.sv) (C := a.lv) h2.ok
    have hA := l00Own_ro a.sv (by omega)
    have hC := l00Own_ro a.lv (by omega)
    have lA : (a.sv.map inL).length = a.sv.length := List.length_map _
    have lC : (a.lv.map inL).length = a.lv.length := List.length_map _
    obtain ⟨N, hN⟩ : ∃ N : Nat, N = min a.sv.length a.lv.length := ⟨_, rfl⟩
    have hfin := hF N
    refine ⟨a, ⟨a.st, a.wd, a.ht, (dcF s2 a.sv a.lv N).2.1, (dcF s2 a.sv a.lv N).2.2⟩, ⟨by omega, by omega⟩, ⟨by dsimp only; omega, by dsimp only; omega⟩, .inr fun k => ?_⟩
    dsimp only
    rw [hfin.2.1, hfin.2.2]
    exact DrawCompare_no bs a s1 s2 p k N _ h1 o2 h2.ok (by omega) hp hN
end Go.Proofs.Ytljpgbgokjiamaa.St

namespace Go.Proofs.Ytljpgbgokjiamaa.St
open Go Go.RowKit Go.Proofs.Ytljpgbgokjiamaa.Aw Go.Proofs.Ytljpgbgokjiamaa.In Go.Proofs.Ytljpgbgokjiamaa.Il Go.Proofs.Ytljpgbgokjiamaa.Sr
set_option linter.unusedSimpArgs false
set_option linter.unusedVariables false
theorem wk_cov {r : Ras} {l : Int} : ∀ i, (∀ j, j < i → 0 ≤ r.sv.getD j 0 → ¬ r.lv.getD j 0 < l) → (wkF r l i).length + (covF r.sv i).length = i
  | 0, _ => rfl
  | i + 1, h => by
    have ih := wk_cov (r := r) (l := l) i fun j hj => h j (by omega)
    rw [wkF_succ, covF_succ]
    by_cases hc : 0 ≤ r.sv.getD i 0
    · have hw : ¬ wkP r l i = true := by
        unfold wkP
        simp only [Bool.or_eq_true, decide_eq_true_eq]
        rintro (h1 | h1)
        · omega
        · exact h i (by omega) hc h1
      rw [if_neg hw, if_pos hc, List.length_append]
      simp only [List.length_cons, List.length_nil]
      omega
    · have hw : wkP r l i = true := by
        unfold wkP
        simp only [Bool.or_eq_true, decide_eq_true_eq]
        exact .inl (by omega)
      rw [if_pos hw, if_neg hc, List.length_append]
      simp only [List.length_cons, List.length_nil]
      omega
theorem srt_pw (xs : List Int) : (So.srt xs).Pairwise fun x y => x ≤ y := by
  have := List.pairwise_mergeSort (le := fun x y : Int => decide (x ≤ y)) (fun a b c h1 h2 => by simp at *; omega) (fun a b => by simp; omega) xs
  exact this.imp fun h => by simpa using h
theorem dsc_pw (r : Ras) : (dsc r).Pairwise fun x y => y ≤ x := by
  unfold dsc
  rw [List.pairwise_reverse]
  exact srt_pw _
theorem dsc_le {r : Ras} {i j : Nat} (hij : i ≤ j) (hj : j < (covL r).length) : (dsc r).getD j 0 ≤ (dsc r).getD i 0 := by
  have hl := dsc_len r
  rw [getD_at (by omega), getD_at (by omega)]
  rcases Nat.eq_or_lt_of_le hij with rfl | h
  · exact Int.le_refl _
  · exact List.pairwise_iff_getElem.1 (dsc_pw r) i j (by omega) (by omega) h
theorem dsc_mem {r : Ras} {x : Int} : x ∈ dsc r ↔ x ∈ lvC r := by
  unfold dsc So.srt
  rw [List.mem_reverse, List.mem_mergeSort]
theorem dsc_least {r : Ras} {j : Nat} (h1 : 1 ≤ (covL r).length) (hj : j < r.sv.length) (hc : 0 ≤ r.sv.getD j 0) : (dsc r).getD ((covL r).length - 1) 0 ≤ r.lv.getD j 0 := by
  have hm : (j : Int) ∈ covL r := by
    unfold covL covF
    exact List.mem_map.2 ⟨j, List.mem_filter.2 ⟨List.mem_range.2 hj, by simpa using hc⟩, rfl⟩
  have hx : r.lv.getD j 0 ∈ dsc r := dsc_mem.2 (List.mem_map.2 ⟨(j : Int), hm, by rw [Int.toNat_natCast]⟩)
  obtain ⟨i, hi, he⟩ := List.getElem_of_mem hx
  have hl := dsc_len r
  have := dsc_le (r := r) (i := i) (j := (covL r).length - 1) (by omega) (by omega)
  rw [getD_at hi, he] at this
  exact this
theorem sc_sum {r : Ras} (hok : okR r = true) : (bkF (svN r).toNat (svG r) (covL r).length).sum = ((covL r).length : Int) := by
  obtain ⟨b1, b2, b3⟩ := svN_bd hok
  rw [bkF_sum, hitN_all]
  · intro k _; rfl
  · intro k hk j hj
    unfold svG at hj
    rw [getD_at hk] at hj
    obtain ⟨q, hq, e, hp⟩ := cov_get hk
    rw [e, Int.toNat_natCast] at hj
    simp only [Option.some.injEq] at hj
    have := b3 q hq
    omega
theorem hs_sum {r : Ras} (hok : okR r = true) : (bkF 60 (hsG r) (covL r).length).sum ≤ ((covL r).length : Int) := by
  rw [bkF_sum]
  · exact (hitN_le _ _).2
  · intro k hk j hj
    unfold hsG at hj
    split at hj
    · rename_i h
      simp only [Option.some.injEq] at hj
      unfold inB at h
      simp only [Bool.and_eq_true, decide_eq_true_eq] at h
      omega
    · cases hj
theorem bk_small {S : Nat} {g : Nat → Option Nat} {r : Ras} (hok : okR r = true) : ∀ x ∈ bkF S g (covL r).length, 0 ≤ x ∧ x ≤ 1000 := fun x hx => by
  have := bkF_bd S g _ x hx
  have h1 := covF_len r.sv r.sv.length
  change (covL r).length ≤ r.sv.length at h1
  obtain ⟨_, _, _, _, n1, _⟩ := ok_nums hok
  omega
end Go.Proofs.Ytljpgbgokjiamaa.St

namespace Go.Proofs.Ytljpgbgokjiamaa.St
open Go Go.RowKit Go.Proofs.Ytljpgbgokjiamaa.Aw Go.Proofs.Ytljpgbgokjiamaa.In Go.Proofs.Ytljpgbgokjiamaa.Il Go.Proofs.Ytljpgbgokjiamaa.Sr
set_option linter.unusedSimpArgs false
set_option linter.unusedVariables false
attribute [local irreducible] AW SQ Step RO RC DE Thn InB
def bt8 (bs : List Int) (k n : Int) : Int := if n ≤ 1 then 0 else if k < bs.length then bs.getD k.toNat 0 % n else (k * 37 + 11) % n
theorem bt8_bd (bs : List Int) (k n : Int) (hn : 1 ≤ n) : 0 ≤ bt8 bs k n ∧ bt8 bs k n < n := by
  unfold bt8
  split
  · omega
  · split <;> exact ⟨Int.emod_nonneg _ (by omega), Int.emod_lt_of_pos _ (by omega)⟩
set_option maxHeartbeats 4000000 in
theorem b10At_ro (bs : List Int) (hb : ∀ b ∈ bs, 0 ≤ b ∧ b ≤ 255) (hn : bs.length ≤ 9223372036854775807) (k n : Int) (hk : 0 ≤ k) (hk2 : k ≤ 1000000) (h1 : n ≤ 1000000000) (m : Nat) : RO Try.prog 19 [.dsl 1 (byL bs), .v (.int .i64 k), .v (.int .i64 n)] m (.v (.int .i64 (bt8 bs k n))) [] m := by
  have hl : (byL bs).length = bs.length := List.length_map _
  by_cases c1 : n ≤ 1
  · have b1 : decide (n ≤ 1) = true := by simpa using c1
    refine RO.ofv' Try.func19 Try.ntmps19 rfl (goFn_of Try.func19 rfl (by kernel_rfl)) rfl rfl ?_
    ((repeat' (first
    | (show SQ _ _ _ _ _ _ _ _; first | apply sq_nil | (apply q_move; exact rfl; exact rfl) | (apply q_assign; exact rfl; exact rfl) | (apply q_leq; exact rfl; exact rfl; exact rfl))
    | (show AW _ _ _ _ _ _ _ _; first | refine aw_region ?_ | (refine aw_seqk ?_; intro K hK) | (apply aw_cond_t; exact rfl; exact (by assumption)) | refine aw_ret ?_)
    | refine thn_n ?_
    | (refine hK _ _ _ ?_; clear hK K)
    | refine thn_r ?_)); all_goals (repeat (clear hK K)))
    all_goals refine fin_r (fin_i rfl ?_)
    rw [bt8, if_pos c1]
  · have b1 : decide (n ≤ 1) = false := by simpa using c1
    have hn0 : (n == 0) = false := by simp; omega
    by_cases c2 : k < bs.length
    · have b2 : decide (k < (((byL bs).length : Nat) : Int)) = true := by rw [hl]; simpa using c2
      obtain ⟨j, rfl⟩ := Int.eq_ofNat_of_zero_le hk
      have hj : j < bs.length := by omega
      have hrow : (byL bs)[((j : Int)).toNat]? = some [.v (.int .u8 bs[j])] := by simp [byL, hj]
      have hbd := hb bs[j] (List.getElem_mem hj)
      have w1 : IntKind.i64.wrap bs[j] = bs[j] := IntWalk.i64_in _ (by omega)
      have w3 : (bs[j]).tmod n = bs[j] % n := Int.tmod_eq_emod_of_nonneg (by omega)
      have w4 := Int.emod_lt_of_pos bs[j] (b := n) (by omega)
      have w5 := Int.emod_nonneg bs[j] (b := n) (by omega)
      have w6 : IntKind.i64.wrap (bs[j] % n) = bs[j] % n := IntWalk.i64_in _ (by omega)
      refine RO.ofv' Try.func19 Try.ntmps19 rfl (goFn_of Try.func19 rfl (by kernel_rfl)) rfl rfl ?_
      ((repeat' (first
    | (show SQ _ _ _ _ _ _ _ _; first | apply sq_nil | (apply q_move; exact rfl; exact rfl) | (apply q_assign; exact rfl; exact rfl) | (apply q_conv; exact rfl; exact rfl; exact (ty rfl); exact rfl; exact (ty rfl)) | (apply q_lend; exact rfl; exact rfl; exact (ty rfl); exact rfl) | (apply q_rem; exact rfl; exact rfl; exact rfl; exact (by first | decide | omega)) | (apply q_lss; exact rfl; exact rfl; exact rfl) | (apply q_leq; exact rfl; exact rfl; exact rfl) | (apply q_ixd; exact rfl; exact rfl; exact rfl; exact (ty rfl); exact rfl; exact (by first | omega | (simp; done) | (simp; omega)); exact (by first | omega | (simp; done) | (simp; omega)); exact (by first | rfl | assumption)) | (apply q_ld1d; exact rfl; exact rfl; exact (ty rfl); exact rfl; exact rfl))
    | (show AW _ _ _ _ _ _ _ _; first | refine aw_region ?_ | (refine aw_seqk ?_; intro K hK) | (apply aw_cond_t; exact rfl; exact (by assumption)) | (apply aw_cond_f; exact rfl; exact (by assumption)) | refine aw_ret ?_ | refine aw_skip ?_)
    | refine thn_n ?_
    | (refine hK _ _ _ ?_; clear hK K)
    | refine thn_r ?_)); all_goals (repeat (clear hK K)))
      all_goals refine fin_r (fin_i rfl ?_)
      rw [bt8, if_neg c1, if_pos c2]
      simp only [w1, w3, w6, Int.toNat_natCast]
      simp [hj]
    · have b2 : decide (k < (((byL bs).length : Nat) : Int)) = false := by rw [hl]; simpa using c2
      have w1 : IntKind.i64.wrap (k * 37) = k * 37 := IntWalk.i64_in _ (by omega)
      have w2 : IntKind.i64.wrap (k * 37 + 11) = k * 37 + 11 := IntWalk.i64_in _ (by omega)
      have w3 : (k * 37 + 11).tmod n = (k * 37 + 11) % n := Int.tmod_eq_emod_of_nonneg (by omega)
      have w4 := Int.emod_lt_of_pos (k * 37 + 11) (b := n) (by omega)
      have w5 := Int.emod_nonneg (k * 37 + 11) (b := n) (by omega)
      have w6 : IntKind.i64.wrap ((k * 37 + 11) % n) = (k * 37 + 11) % n := IntWalk.i64_in _ (by omega)
      refine RO.ofv' Try.func19 Try.ntmps19 rfl (goFn_of Try.func19 rfl (by kernel_rfl)) rfl rfl ?_
      ((repeat' (first
    | (show SQ _ _ _ _ _ _ _ _; first | apply sq_nil | (apply q_move; exact rfl; exact rfl) | (apply q_assign; exact rfl; exact rfl) | (apply q_lend; exact rfl; exact rfl; exact (ty rfl); exact rfl) | (apply q_add; exact rfl; exact rfl; exact rfl) | (apply q_mul; exact rfl; exact rfl; exact rfl) | (apply q_rem; exact rfl; exact rfl; exact rfl; exact (by first | decide | omega)) | (apply q_lss; exact rfl; exact rfl; exact rfl) | (apply q_leq; exact rfl; exact rfl; exact rfl))
    | (show AW _ _ _ _ _ _ _ _; first | refine aw_region ?_ | (refine aw_seqk ?_; intro K hK) | (apply aw_cond_f; exact rfl; exact (by assumption)) | refine aw_ret ?_ | refine aw_skip ?_)
    | refine thn_n ?_
    | (refine hK _ _ _ ?_; clear hK K))); all_goals (repeat (clear hK K)))
      all_goals refine fin_r (fin_i rfl ?_)
      rw [bt8, if_neg c1, if_neg c2]
      simp only [w1, w2, w3, w6]
set_option maxHeartbeats 4000000 in
theorem b10Long_ro (bs : List Int) (k : Nat) : RO Try.prog 4 [.dsl 1 (byL bs)] k (.v (.bool (decide (1048576 < (((byL bs).length : Nat) : Int))))) [] k := by
  refine RO.ofv' Try.func4 Try.ntmps4 rfl (goFn_of Try.func4 rfl (by kernel_rfl)) rfl rfl ?_
  ((repeat' (first
    | (show SQ _ _ _ _ _ _ _ _; first | apply sq_nil | (apply q_move; exact rfl; exact rfl) | (apply q_assign; exact rfl; exact rfl) | (apply q_lend; exact rfl; exact rfl; exact (ty rfl); exact rfl) | (apply q_gtr; exact rfl; exact rfl; exact rfl))
    | (show AW _ _ _ _ _ _ _ _; first | refine aw_region ?_ | (refine aw_seqk ?_; intro K hK) | refine aw_ret ?_)
    | refine thn_n ?_
    | (refine hK _ _ _ ?_; clear hK K))); all_goals (repeat (clear hK K)))
  all_goals exact fin_r (fin_b rfl rfl)
end Go.Proofs.Ytljpgbgokjiamaa.St

namespace Go.Proofs.Ytljpgbgokjiamaa.St
open Go Go.RowKit Go.Proofs.Ytljpgbgokjiamaa.Aw Go.Proofs.Ytljpgbgokjiamaa.In Go.Proofs.Ytljpgbgokjiamaa.Il Go.Proofs.Ytljpgbgokjiamaa.Sr
set_option linter.unusedSimpArgs false
set_option linter.unusedVariables false
def meetL (ls : List (List Int)) (a b : Int) : List (List Int) :=
  if 0 ≤ a ∧ 0 ≤ b ∧ a ≠ b then (ls.set a.toNat (ls.getD a.toNat [] ++ [b])).set b.toNat (ls.getD b.toNat [] ++ [a]) else ls
theorem meetL_len (ls : List (List Int)) (a b : Int) : (meetL ls a b).length = ls.length := by
  unfold meetL; split
  · rw [List.length_set, List.length_set]
  · rfl
theorem getD_set_self {ls : List (List Int)} {i : Nat} {v : List Int} (h : i < ls.length) : (ls.set i v).getD i [] = v := by
  rw [List.getD_eq_getElem?_getD, List.getElem?_set_self h]; rfl
theorem getD_set_ne {ls : List (List Int)} {i j : Nat} {v : List Int} (h : i ≠ j) : (ls.set i v).getD j [] = ls.getD j [] := by
  rw [List.getD_eq_getElem?_getD, List.getElem?_set_ne h, ← List.getD_eq_getElem?_getD]
theorem meet_mem {ls : List (List Int)} {A B : Nat} (hA : A < ls.length) (hB : B < ls.length) (hne : A ≠ B) (i : Nat) (x : Int) :
    x ∈ (meetL ls A B).getD i [] ↔ x ∈ ls.getD i [] ∨ (i = A ∧ x = B) ∨ (i = B ∧ x = A) := by
  unfold meetL
  rw [if_pos ⟨by omega, by omega, by omega⟩, Int.toNat_natCast, Int.toNat_natCast]
  by_cases h1 : B = i
  · subst h1
    rw [getD_set_self (by rw [List.length_set]; exact hB), List.mem_append, List.mem_singleton]
    constructor
    · rintro (h | h)
      · exact .inl h
      · exact .inr (.inr ⟨rfl, h⟩)
    · rintro (h | ⟨h, _⟩ | ⟨_, h⟩)
      · exact .inl h
      · exact absurd h.symm hne
      · exact .inr h
  · rw [getD_set_ne h1]
    by_cases h2 : A = i
    · subst h2
      rw [getD_set_self hA, List.mem_append, List.mem_singleton]
      constructor
      · rintro (h | h)
        · exact .inl h
        · exact .inr (.inl ⟨rfl, h⟩)
      · rintro (h | ⟨_, h⟩ | ⟨h, _⟩)
        · exact .inl h
        · exact .inr h
        · exact absurd h hne
    · rw [getD_set_ne h2]
      constructor
      · exact .inl
      · rintro (h | ⟨h, _⟩ | ⟨h, _⟩)
        · exact h
        · exact absurd h.symm h2
        · exact absurd h.symm h1
structure AdjOk (N : Nat) (ls : List (List Int)) : Prop where
  n : ls.length = N
  b : ∀ i, i < N → ∀ x ∈ ls.getD i [], 0 ≤ x ∧ x < N ∧ x ≠ i
  s : ∀ i j : Nat, i < N → j < N → (j : Int) ∈ ls.getD i [] → (i : Int) ∈ ls.getD j []
theorem AdjOk.zero (N : Nat) : AdjOk N (List.replicate N []) := by
  have e : ∀ i, (List.replicate N ([] : List Int)).getD i [] = [] := fun i => by
    rw [List.getD_eq_getElem?_getD, List.getElem?_replicate]; split <;> rfl
  exact ⟨List.length_replicate, fun i _ x hx => by rw [e] at hx; simp at hx, fun i j _ _ h => by rw [e] at h; simp at h⟩
theorem AdjOk.meet {N : Nat} {ls : List (List Int)} (h : AdjOk N ls) (a b : Int) (ha : a < N) (hb : b < N) : AdjOk N (meetL ls a b) := by
  by_cases hc : 0 ≤ a ∧ 0 ≤ b ∧ a ≠ b
  · obtain ⟨A, rfl⟩ : ∃ A : Nat, a = A := ⟨a.toNat, by omega⟩
    obtain ⟨B, rfl⟩ : ∃ B : Nat, b = B := ⟨b.toNat, by omega⟩
    have hA : A < ls.length := by have := h.n; omega
    have hB : B < ls.length := by have := h.n; omega
    have hne : A ≠ B := by omega
    refine ⟨by rw [meetL_len]; exact h.n, fun i hi x hx => ?_, fun i j hi hj hx => ?_⟩
    · rcases (meet_mem hA hB hne i x).1 hx with hx | ⟨rfl, rfl⟩ | ⟨rfl, rfl⟩
      · exact h.b i hi x hx
      · omega
      · omega
    · rw [meet_mem hA hB hne] at hx ⊢
      rcases hx with hx | ⟨rfl, e⟩ | ⟨rfl, e⟩
      · exact .inl (h.s i j hi hj hx)
      · exact .inr (.inr ⟨by omega, rfl⟩)
      · exact .inr (.inl ⟨by omega, rfl⟩)
  · unfold meetL; rw [if_neg hc]; exact h
end Go.Proofs.Ytljpgbgokjiamaa.St

namespace Go.Proofs.Ytljpgbgokjiamaa.St
open Go Go.RowKit Go.Proofs.Ytljpgbgokjiamaa.Aw Go.Proofs.Ytljpgbgokjiamaa.In Go.Proofs.Ytljpgbgokjiamaa.Il Go.Proofs.Ytljpgbgokjiamaa.Sr
set_option linter.unusedSimpArgs false
set_option linter.unusedVariables false
theorem inc_eq : ∀ {xs ys : List Int}, (xs.Pairwise fun a b => a < b) → (ys.Pairwise fun a b => a < b) → (∀ x, x ∈ xs ↔ x ∈ ys) → xs = ys
  | [], [], _, _, _ => rfl
  | [], y :: ys, _, _, h => by have := (h y).2 (by simp); simp at this
  | x :: xs, [], _, _, h => by have := (h x).1 (by simp); simp at this
  | x :: xs, y :: ys, hx, hy, h => by
    rw [List.pairwise_cons] at hx hy
    have e : x = y := by
      rcases List.mem_cons.1 ((h x).1 (by simp)) with e | e
      · exact e
      · rcases List.mem_cons.1 ((h y).2 (by simp)) with e2 | e2
        · exact e2.symm
        · have := hx.1 y e2
          have := hy.1 x e
          omega
    subst e
    congr 1
    refine inc_eq hx.2 hy.2 fun z => ?_
    constructor
    · intro hz
      rcases List.mem_cons.1 ((h z).1 (List.mem_cons_of_mem _ hz)) with e | e
      · have := hx.1 z hz; omega
      · exact e
    · intro hz
      rcases List.mem_cons.1 ((h z).2 (List.mem_cons_of_mem _ hz)) with e | e
      · have := hy.1 z hz; omega
      · exact e
def selN (p : Nat → Bool) (N : Nat) : List Int := ((List.range N).filter p).map fun k : Nat => (k : Int)
theorem selN_pw (p : Nat → Bool) (N : Nat) : (selN p N).Pairwise fun a b => a < b := by
  unfold selN
  rw [List.pairwise_map]
  refine List.Pairwise.filter _ ?_
  exact List.pairwise_lt_range.imp fun h => by omega
theorem selN_mem {p : Nat → Bool} {N : Nat} {x : Int} : x ∈ selN p N ↔ ∃ k : Nat, k < N ∧ p k = true ∧ x = k := by
  unfold selN
  rw [List.mem_map]
  constructor
  · rintro ⟨k, hk, rfl⟩
    obtain ⟨h1, h2⟩ := List.mem_filter.1 hk
    exact ⟨k, List.mem_range.1 h1, h2, rfl⟩
  · rintro ⟨k, h1, h2, rfl⟩
    exact ⟨k, List.mem_filter.2 ⟨List.mem_range.2 h1, h2⟩, rfl⟩
end Go.Proofs.Ytljpgbgokjiamaa.St

namespace Go.Proofs.Ytljpgbgokjiamaa.St
open Go Go.RowKit Go.Proofs.Ytljpgbgokjiamaa.Aw Go.Proofs.Ytljpgbgokjiamaa.In Go.Proofs.Ytljpgbgokjiamaa.Il Go.Proofs.Ytljpgbgokjiamaa.Sr
set_option linter.unusedSimpArgs false
set_option linter.unusedVariables false
theorem arr_at {xs : List Int} {j : Nat} (h : j < xs.length) : xs.toArray[j]! = xs[j] := by
  simp [h]
theorem cpt_mem {xs : List Int} {x : Int} : x ∈ Lib.compact xs ↔ x ∈ xs := by
  unfold Lib.compact Lib.compactUpTo
  rw [List.mem_map]
  constructor
  · rintro ⟨j, hj, rfl⟩
    obtain ⟨h1, _⟩ := List.mem_filter.1 hj
    have h2 := List.mem_range.1 h1
    rw [arr_at h2]
    exact List.getElem_mem h2
  · intro hx
    obtain ⟨m, hm, he⟩ := List.getElem_of_mem hx
    obtain ⟨i, hi, ⟨hi2, hi3⟩, hmin⟩ := least (P := fun i => ∃ h : i < xs.length, xs[i] = x) ⟨hm, he⟩
    refine ⟨i, List.mem_filter.2 ⟨List.mem_range.2 hi2, ?_⟩, by rw [arr_at hi2]; exact hi3⟩
    rcases Nat.eq_zero_or_pos i with h0 | h0
    · exact Lib.keeps_lt_one _ _ (by omega)
    · refine Lib.keeps_pos ?_
      rw [arr_at hi2, arr_at (by omega), hi3]
      intro e
      exact hmin (i - 1) (by omega) ⟨by omega, e.symm⟩
theorem cpt_pw {xs : List Int} (h : xs.Pairwise fun a b => a ≤ b) : (Lib.compact xs).Pairwise fun a b => a < b := by
  unfold Lib.compact Lib.compactUpTo
  rw [List.pairwise_map]
  have hl := List.pairwise_lt_range (n := xs.length)
  refine List.Pairwise.imp_of_mem ?_ (List.Pairwise.filter (Lib.keeps xs.toArray) hl)
  intro i j hi hj hij
  obtain ⟨i1, _⟩ := List.mem_filter.1 hi
  obtain ⟨j1, j2⟩ := List.mem_filter.1 hj
  have i2 := List.mem_range.1 i1
  have j3 := List.mem_range.1 j1
  have hne : xs[j] ≠ xs[j - 1] := by
    intro e
    have := Lib.keeps_neg (d := xs.toArray) (m := j) (by omega) (by rw [arr_at j3, arr_at (by omega)]; exact e)
    rw [this] at j2
    cases j2
  have le1 : xs[i] ≤ xs[j - 1] := by
    rcases Nat.eq_or_lt_of_le (show i ≤ j - 1 by omega) with e | e
    · simp only [← e]; exact Int.le_refl _
    · exact List.pairwise_iff_getElem.1 h i (j - 1) i2 (by omega) e
  have le2 : xs[j - 1] ≤ xs[j] := List.pairwise_iff_getElem.1 h (j - 1) j (by omega) j3 (by omega)
  show xs.toArray[i]! < xs.toArray[j]!
  rw [arr_at i2, arr_at j3]
  omega
end Go.Proofs.Ytljpgbgokjiamaa.St

namespace Go.Proofs.Ytljpgbgokjiamaa.St
open Go Go.RowKit Go.Proofs.Ytljpgbgokjiamaa.Aw Go.Proofs.Ytljpgbgokjiamaa.In Go.Proofs.Ytljpgbgokjiamaa.Il Go.Proofs.Ytljpgbgokjiamaa.Sr
set_option linter.unusedSimpArgs false
set_option linter.unusedVariables false
def ordL (ls : List (List Int)) : List (List Int) := ls.map fun l => Lib.compact (So.srt l)
theorem ordL_len (ls : List (List Int)) : (ordL ls).length = ls.length := List.length_map _
theorem ordL_at (ls : List (List Int)) (i : Nat) : (ordL ls).getD i [] = Lib.compact (So.srt (ls.getD i [])) := by
  unfold ordL
  rw [List.getD_eq_getElem?_getD, List.getElem?_map, List.getD_eq_getElem?_getD]
  cases ls[i]? with
  | some l => rfl
  | none => simp [So.srt, Lib.compact, Lib.compactUpTo]
theorem ordL_mem {ls : List (List Int)} {i : Nat} {x : Int} : x ∈ (ordL ls).getD i [] ↔ x ∈ ls.getD i [] := by
  rw [ordL_at, cpt_mem]
  unfold So.srt
  exact List.mem_mergeSort
theorem ordL_pw (ls : List (List Int)) (i : Nat) : ((ordL ls).getD i []).Pairwise fun a b => a < b := by
  rw [ordL_at]; exact cpt_pw (srt_pw _)
theorem any_eq {xs : List Int} {k : Int} : (xs.any fun y => y == k) = true ↔ k ∈ xs := by
  rw [List.any_eq_true]
  constructor
  · rintro ⟨x, hx, e⟩; obtain rfl : x = k := by simpa using e
    exact hx
  · intro h; exact ⟨k, h, by simp⟩
theorem sym_eq {N : Nat} {ls : List (List Int)} (h : AdjOk N ls) {i : Nat} (hi : i < N) : selN (Nb.nearB (ordL ls) i) N = (ordL ls).getD i [] := by
  refine inc_eq (selN_pw _ _) (ordL_pw ls i) fun x => ?_
  rw [selN_mem, ordL_mem]
  unfold Nb.nearB
  constructor
  · rintro ⟨k, hk, hn, rfl⟩
    rw [Bool.or_eq_true] at hn
    rcases hn with e | e
    · exact ordL_mem.1 (any_eq.1 e)
    · exact h.s k i hk hi (ordL_mem.1 (any_eq.1 e))
  · intro hx
    obtain ⟨h0, h1, _⟩ := h.b i hi x hx
    obtain ⟨k, rfl⟩ : ∃ k : Nat, x = k := ⟨x.toNat, by omega⟩
    refine ⟨k, by omega, ?_, rfl⟩
    rw [Bool.or_eq_true]
    exact .inl (any_eq.2 (ordL_mem.2 hx))
theorem ord_valid {N : Nat} {ls : List (List Int)} (h : AdjOk N ls) (hN : N ≤ 24) : Nb.nbB (ordL ls) = true := by
  have hl : (ordL ls).length = N := by rw [ordL_len]; exact h.n
  unfold Nb.nbB
  rw [hl, Bool.and_eq_true, decide_eq_true_eq, List.all_eq_true]
  refine ⟨hN, fun i hi => ?_⟩
  have hi := List.mem_range.1 hi
  unfold Nb.nbG
  rw [Bool.and_eq_true, Bool.and_eq_true]
  refine ⟨⟨?_, ?_⟩, ?_⟩
  · unfold incB
    rw [List.all_eq_true]
    intro j hj
    have hj := List.mem_range.1 hj
    unfold incAt
    rw [Bool.or_eq_true, decide_eq_true_eq, decide_eq_true_eq]
    by_cases h0 : j = 0
    · exact .inl h0
    · refine .inr ?_
      have := List.pairwise_iff_getElem.1 (ordL_pw ls i) (j - 1) j (by omega) hj (by omega)
      rw [getD_at (by omega), getD_at hj]
      exact this
  · rw [Bool.not_eq_true', List.any_eq_false]
    intro x hx
    have := h.b i hi x (ordL_mem.1 hx)
    rw [hl]
    unfold inB
    simp only [Bool.not_eq_true, Bool.not_eq_false', Bool.and_eq_true, decide_eq_true_eq]
    omega
  · rw [Bool.not_eq_true']
    cases hb : ((ordL ls).getD i []).any fun y => y == (i : Int) with
    | false => rfl
    | true =>
      have := h.b i hi _ (ordL_mem.1 (any_eq.1 hb))
      exact absurd rfl this.2.2
end Go.Proofs.Ytljpgbgokjiamaa.St

namespace Go.Proofs.Ytljpgbgokjiamaa.St
open Go Go.RowKit Go.Proofs.Ytljpgbgokjiamaa.Aw Go.Proofs.Ytljpgbgokjiamaa.In Go.Proofs.Ytljpgbgokjiamaa.Il Go.Proofs.Ytljpgbgokjiamaa.Sr
set_option linter.unusedSimpArgs false
set_option linter.unusedVariables false
attribute [local irreducible] AW SQ Step RO RC DE Thn InB
set_option maxHeartbeats 4000000 in
theorem symClo_ro (ls : List (List Int)) (hS : Nb.NbS ls) (i j : Nat) (hi : i < ls.length) (hj : j < ls.length) (k : Nat) : RO Try.prog 38 [.v (.int .i64 i), .v (.int .i64 j), .dptr [.dsl 1 (Nb.nbL ls)]] k (.v (.bool (Nb.nearB ls i j))) [] k := by
  have hA := fun k => Nb.areNeighbours_ro (ls := ls) hS i j hi hj k
  refine RO.ofv' Try.func38 Try.ntmps38 rfl (goFn_of Try.func38 rfl (by kernel_rfl)) rfl rfl ?_
  ((repeat' (first
    | (show SQ _ _ _ _ _ _ _ _; first | apply sq_nil | (apply q_move; exact rfl; exact rfl) | (apply q_assign; exact rfl; exact rfl) | (apply q_ld1d; exact rfl; exact rfl; exact (ty rfl); exact rfl; exact rfl))
    | (show SQ _ _ _ _ _ _ _ _; (first | (apply q_callU; exact rfl; exact rfl; exact rfl; exact FzL.of rfl; exact hA _)); (try simp only [put, rowsOf, plR, List.all_cons, selE, ovr, setH, del, cellsA, splice, isV, List.nil_append, List.cons_append, List.map_cons, List.map_nil, List.length_cons, List.length_nil, List.set_cons_zero, List.set_cons_succ, List.take_succ_cons, List.take_zero, List.take_nil, List.drop_succ_cons, List.drop_zero, List.drop_nil, List.append_nil, List.all_cons, List.all_nil, Bool.and_true, Bool.true_and, Bool.and_false, Bool.false_and, Nat.reduceAdd, Nat.zero_add, Nat.add_zero, Nat.reduceEqDiff, if_true, if_false, reduceIte]))
    | (show AW _ _ _ _ _ _ _ _; first | refine aw_region ?_ | (refine aw_seqk ?_; intro K hK) | refine aw_ret ?_)
    | refine thn_n ?_
    | (refine hK _ _ _ ?_; clear hK K))); all_goals (repeat (clear hK K)))
  all_goals exact fin_r (fin_b rfl rfl)
end Go.Proofs.Ytljpgbgokjiamaa.St

namespace Go.Proofs.Ytljpgbgokjiamaa.Aw
open Go Go.RowKit
set_option linter.unusedVariables false
section
variable {P : Program} {N g n : Nat} {Q : Exit → Tp → Hp → Nat → Prop} {T : Tp} {H : Hp}
theorem Rel.unpl {Old : Nat → Prop} {wi : WI Old} {K : Nat → Prop} {m : Nat → Loc} {S : Nat → Prop} {w : World} {id ty sz : Nat} {rows : List (List AV)} (hr : Rel Old wi K m S H w) (hl : look H id = some ⟨ty, sz, true, rows⟩) :
    Rel Old wi K m S ((id, ⟨ty, sz, false, rows⟩) :: H) w := by
  have pt : ∀ {i : Nat} {b : Blk}, look ((id, (⟨ty, sz, false, rows⟩ : Blk)) :: H) i = some b → ∃ b0, look H i = some b0 ∧ b0.size = b.size := by
    intro i b h
    rw [look_cons] at h
    split at h
    · rename_i e; subst e; simp only [Option.some.injEq] at h; subst h; exact ⟨_, hl, rfl⟩
    · exact ⟨b, h, rfl⟩
  exact { hr with
    oown := (fun i b h => by obtain ⟨b0, h0, _⟩ := pt h; exact hr.oown i b0 h0)
    om := (fun i b h => by obtain ⟨b0, h0, e⟩ := pt h; rw [← e]; exact hr.om i b0 h0)
    inS := (fun i b h => by obtain ⟨b0, h0, _⟩ := pt h; exact hr.inS i b0 h0)
    own := (fun i b h => by
      rw [look_cons] at h
      split at h
      · rename_i e
        subst e
        simp only [Option.some.injEq] at h
        subst h
        rcases hr.own _ _ hl with ⟨h1, h2⟩ | ⟨h1, h2⟩
        · exact .inl ⟨h1, h2⟩
        · refine .inr ⟨h1, { nk := h2.nk, sz := h2.sz, cap := h2.cap, capm := h2.capm, plv := (fun h => by cases h), ex := ?_ }⟩
          obtain ⟨cur, g1, g2, g3⟩ := h2.ex
          refine ⟨cur, g1, g2, fun r row hrow => ⟨(g3 r row hrow).1, fun j cv hj => ?_⟩⟩
          obtain ⟨x, x1, x2, x3⟩ := (g3 r row hrow).2 j cv hj
          exact ⟨x, x1, x2, x3.mono (fun _ h => h) (fun _ _ => rfl) (fun i hi => by simp at hi) (fun i hi => rfl)⟩
      · exact hr.own i b h)
    inj := (fun i j bi bj hi hj => by
      obtain ⟨b0, h0, _⟩ := pt hi
      obtain ⟨b1, h1, _⟩ := pt hj
      exact hr.inj i j b0 b1 h0 h1) }
theorem aw_unpl {c : Code} (id : Nat) {ty sz : Nat} {rows : List (List AV)} (hl : look H id = some ⟨ty, sz, true, rows⟩) (h : AW P N g c Q T ((id, ⟨ty, sz, false, rows⟩) :: H) n) : AW P N g c Q T H n := fun Old wi K m a w hp hr ht =>
  h Old wi K m a w hp (hr.unpl hl) ht
end
def mv (a b : Nat) : Nat → Nat := fun z => if z = a then b else z
end Go.Proofs.Ytljpgbgokjiamaa.Aw

namespace Go.Proofs.Ytljpgbgokjiamaa.Aw
open Go Go.RowKit
set_option linter.unusedVariables false
section
variable {Old : Nat → Prop} {wi : WI Old} {K : Nat → Prop} {m : Nat → Loc} {S : Nat → Prop} {H H' : Hp} {w : World}
theorem Rel.less (hs : ∀ i b, look H' i = some b → look H i = some b) (hr : Rel Old wi K m S H w) : Rel Old wi K m S H' w :=
  { hr with
    oown := (fun i b h => hr.oown i b (hs i b h))
    om := (fun i b h => hr.om i b (hs i b h))
    inS := (fun i b h => hr.inS i b (hs i b h))
    own := (fun i b h => hr.own i b (hs i b h))
    inj := (fun i j bi bj hi hj => hr.inj i j bi bj (hs i bi hi) (hs j bj hj)) }
end
section
variable {P : Program} {N g n n' : Nat} {all : Array Oper} {l : List Oper} {G : Tp → Hp → Nat → Prop} {Q : Exit → Tp → Hp → Nat → Prop} {T : Tp} {H H' : Hp} {d : Nat} {ty : TypeId} {pos : String} {after : Array Edge}
theorem sq_sub (hs : ∀ i b, look H' i = some b → look H i = some b) (h : SQ P N all l G T H' n) : SQ P N all l G T H n := fun Old wi K m a w Q hr ht hq => h Old wi K m a w Q (hr.less hs) ht hq
theorem q_callN {f : Operand} {gf : FuncId} {xs : Array Operand} {ts : Array TypeId} {caps args args' : List AV} {v : AV} {u Ut : Hp} (hd : Nat.blt d N = true) (hf : evalA T f = some (.fn gf caps)) (ha : evalL T xs.toList = some args) (hz : FzL H (args ++ caps) args') (hro : RO P gf args' n v (u ++ Ut) n')
    (h : SQ P N all l G ((d, v) :: T) (u ++ (H ++ Ut)) n') : SQ P N all (⟨some d, .call { callee := .value f, args := xs, argTypes := ts }, ty, pos, after, none⟩ :: l) G T H n := by
  intro Old wi K m a w Q hr ht hq
  have hU := hro.2.2.1
  refine q_callU hd hf ha hz hro (sq_sub (fun i b hb => ?_) h) Old wi K m a w Q hr ht hq
  rw [look_append] at hb
  rw [List.append_assoc, look_append]
  cases hu : look u i with
  | some c => rw [hu] at hb; exact hb
  | none =>
    rw [hu, Option.none_or, look_append] at hb
    rw [Option.none_or, look_append]
    cases hh : look H i with
    | none => rw [hh, Option.none_or] at hb; rw [hb]; rfl
    | some c =>
      rw [hh, Option.some_or] at hb
      cases ht : look Ut i with
      | none => exact hb
      | some e =>
        have h1 := hr.inS i c hh
        have h2 := hU i e (by rw [look_append, hu, Option.none_or]; exact ht)
        exact absurd h2.1 (by have : i < n := h1; omega)
end
def nst (base : Nat) : List Blk → Hp
  | [] => []
  | b :: bs => (base, b) :: nst (base + 1) bs
theorem look_nst : ∀ (bs : List Blk) (base k : Nat), look (nst base bs) k = if base ≤ k then bs[k - base]? else none
  | [], base, k => by simp [nst, look_nil]
  | b :: bs, base, k => by
    rw [nst, look_cons, look_nst bs (base + 1) k]
    by_cases h : base = k
    · subst h; simp
    · rw [if_neg h]
      by_cases h2 : base ≤ k
      · rw [if_pos h2, if_pos (by omega), show k - base = (k - (base + 1)) + 1 by omega]; rfl
      · rw [if_neg h2, if_neg (by omega)]
theorem look_nst_at {bs : List Blk} {base j : Nat} : look (nst base bs) (base + j) = bs[j]? := by
  rw [look_nst, if_pos (by omega), Nat.add_sub_cancel_left]
theorem nst_keys : ∀ (bs : List Blk) (base : Nat), (nst base bs).map (·.1) = List.range' base bs.length
  | [], _ => rfl
  | b :: bs, base => by rw [nst, List.map_cons, nst_keys bs (base + 1), List.length_cons, List.range'_succ]
def NstIn (H : Hp) (base : Nat) (bs : List Blk) : Prop := ∀ (j : Nat) (b : Blk), bs[j]? = some b → look H (base + j) = some b
theorem nlt {bs : List Blk} {j : Nat} {b : Blk} (h : bs[j]? = some b) : j < bs.length := (List.getElem?_eq_some_iff.1 h).1
theorem NstIn.here' {base : Nat} {bs : List Blk} : NstIn (nst base bs) base bs := fun j b h => by rw [look_nst_at, h]
theorem NstIn.cons {base i : Nat} {b : Blk} {bs : List Blk} {H : Hp} (h : i < base ∨ base + bs.length ≤ i) (hn : NstIn H base bs) : NstIn ((i, b) :: H) base bs := fun j c hc => by
  have := nlt hc
  rw [look_cons, if_neg (by omega)]; exact hn j c hc
theorem NstIn.skip {base base' : Nat} {bs bs' : List Blk} {H : Hp} (h : base + bs.length ≤ base' ∨ base' + bs'.length ≤ base) (hn : NstIn H base bs) : NstIn (nst base' bs' ++ H) base bs := fun j c hc => by
  have := nlt hc
  rw [look_append, look_nst]
  by_cases h2 : base' ≤ base + j
  · rw [if_pos h2, List.getElem?_eq_none (by omega)]; exact hn j c hc
  · rw [if_neg h2]; exact hn j c hc
def outR (base : Nat) : List Nat → List (List AV)
  | [] => []
  | n :: ns => [.sl base 0 n] :: outR (base + 1) ns
theorem outR_len : ∀ (ns : List Nat) (base : Nat), (outR base ns).length = ns.length
  | [], _ => rfl
  | n :: ns, base => by rw [outR, List.length_cons, outR_len ns, List.length_cons]
theorem outR_get : ∀ (ns : List Nat) (base i : Nat), (outR base ns)[i]? = ns[i]?.map fun n => [.sl (base + i) 0 n]
  | [], base, i => by simp [outR]
  | n :: ns, base, 0 => rfl
  | n :: ns, base, i + 1 => by
    rw [outR, List.getElem?_cons_succ, outR_get ns (base + 1) i, List.getElem?_cons_succ, show base + 1 + i = base + (i + 1) by omega]
theorem outR_app : ∀ (ns ms : List Nat) (base : Nat), outR base (ns ++ ms) = outR base ns ++ outR (base + ns.length) ms
  | [], ms, base => rfl
  | n :: ns, ms, base => by rw [List.cons_append, outR, outR, outR_app ns ms (base + 1), List.cons_append, List.length_cons, show base + 1 + ns.length = base + (ns.length + 1) by omega]
def blkR (ity : TypeId) (rows : List (List AV)) : Blk := ⟨ity, 1, true, rows⟩
def nestB (ty : TypeId) (k : Nat) (Ls : List (List (List AV))) : Blk := ⟨ty, 1, false, outR (k + 1) (Ls.map List.length)⟩
theorem fz_outR {H : Hp} {ity : TypeId} : ∀ (Ls : List (List (List AV))) (base : Nat), NstIn H base (Ls.map (blkR ity)) → (outR base (Ls.map List.length)).mapM (fun r => r.mapM (fz 1 H)) = some (Ls.map fun rows => [.dsl 1 rows])
  | [], _, _ => rfl
  | rows :: Ls, base, h => by
    have h0 := h 0 (blkR ity rows) rfl
    have ih := fz_outR Ls (base + 1) fun j b hb => by
      have := h (j + 1) b (by simpa using hb)
      rwa [show base + (j + 1) = base + 1 + j by omega] at this
    rw [List.map_cons, outR, List.mapM_cons, ih, List.mapM_cons]
    have h0 : look H base = some (blkR ity rows) := h0
    have e : fz 1 H (.sl base 0 rows.length) = some (.dsl 1 rows) := by
      simp only [fz, h0, blkR, Nat.zero_add, Nat.le_refl, if_true, List.drop_zero, List.take_length]
    rw [e]; rfl
theorem Fz.nst {H : Hp} {k len : Nat} {ty ity : TypeId} {Ls : List (List (List AV))} {rows : List (List AV)} (hl : look H k = some (nestB ty k Ls)) (hn : NstIn H (k + 1) (Ls.map (blkR ity))) (he : len = Ls.length) (hr : (Ls.map fun rows => [.dsl 1 rows]) = rows) : Fz H (.sl k 0 len) (.dsl 1 rows) := by
  subst he hr
  refine fun _ _ _ _ _ _ _ hrel hv => fz_vr hrel 2 _ _ _ ?_ hv
  have hlen := outR_len (Ls.map List.length) (k + 1)
  rw [List.length_map] at hlen
  rw [fz, hl]
  simp only [nestB, Nat.zero_add, List.drop_zero]
  rw [if_pos (by omega), List.take_of_length_le (by omega), if_neg (by simp), fz_outR Ls (k + 1) hn]
  rfl
theorem RO.wide {P : Program} {f : FuncId} {args : List AV} {n n' n'' : Nat} {v : AV} {U : Hp} (h : RO P f args n v U n') (hn : n' ≤ n'') : RO P f args n v U n'' := by
  obtain ⟨h1, h2, h3, h4⟩ := h
  refine ⟨h1, by omega, fun i b hl => by have := h3 i b hl; omega, fun K w xs hgl hk hv => (h4 K w xs hgl hk hv).mono fun e w' ⟨r, m', he, hr⟩ => ⟨r, fun i => if i < n' then m' i else ⟨0, 0, 0, true⟩, he, ?_⟩⟩
  have hm : ∀ i, n ≤ i ∧ i < n' → (if i < n' then m' i else (⟨0, 0, 0, true⟩ : Loc)) = m' i := fun i hi => if_pos hi.2
  have hU : ∀ i b, look U i = some b → (if i < n' then m' i else (⟨0, 0, 0, true⟩ : Loc)) = m' i := fun i b hl => hm i (h3 i b hl)
  refine { below := hr.below, vr := hr.vr.mono (fun _ h => h) (fun _ _ => rfl) (fun i hi => ⟨hi.1, by omega⟩) hm, new := fun i g1 g2 hp => ?_, ids := fun i b hl => by have := h3 i b hl; omega, own := fun i b hl => ?_, inj := fun i j bi bj hi hj hne => ?_, nm := fun i b hl => ?_ }
  · split at hp
    · rename_i hlt; rw [if_pos hlt]; exact hr.new i g1 hlt hp
    · cases hp
  · have hs := h3 i b hl
    rcases hr.own i b hl with ⟨g1, g2⟩ | ⟨g1, g2⟩
    · exact .inl ⟨by dsimp only; rw [hU i b hl]; exact g1, g2⟩
    · refine .inr ⟨by dsimp only; rw [hU i b hl]; exact g1, ?_⟩
      have := g2.mono (w' := w') (m' := fun i => if i < n' then m' i else (⟨0, 0, 0, true⟩ : Loc)) (S' := fun i => n ≤ i ∧ i < n'') (fun _ _ => rfl) rfl (fun i hi => ⟨hi.1, by omega⟩) hm hs
      exact this
  · rw [hU i bi hi, hU j bj hj]; exact hr.inj i j bi bj hi hj hne
  · rw [hU i b hl]; exact hr.nm i b hl
/-! loops -/
theorem subH_nst {H : Hp} {ρ : Nat → Nat} {n' : Nat} : ∀ (bs : List Blk) (base : Nat) (R : Hp), (∀ (j : Nat) (b : Blk), bs[j]? = some b → look H (ρ (base + j)) = some (renB ρ b) ∧ idsOkB n' b = true ∧ Nat.blt (base + j) n' = true) → subH H ρ n' R → subH H ρ n' (nst base bs ++ R)
  | [], _, _, _, hR => hR
  | b :: bs, base, R, h, hR => ⟨h 0 b rfl, subH_nst bs (base + 1) R (fun j c hc => by
      have := h (j + 1) c (by simpa using hc)
      rwa [show base + (j + 1) = base + 1 + j by omega] at this) hR⟩
theorem injB_of {ρ : Nat → Nat} : ∀ {l : List Nat}, (∀ i ∈ l, ∀ j ∈ l, ρ i = ρ j → i = j) → injB ρ l = true
  | [], _ => rfl
  | i :: l, h => by
    rw [injB, Bool.and_eq_true]
    refine ⟨List.all_eq_true.2 fun j hj => ?_, injB_of fun a ha b hb => h a (List.mem_cons_of_mem _ ha) b (List.mem_cons_of_mem _ hb)⟩
    by_cases e : ρ i = ρ j
    · have := h i List.mem_cons_self j (List.mem_cons_of_mem _ hj) e
      subst this; simp
    · simp only [Bool.or_eq_true, Bool.not_eq_true']
      exact .inr (by cases hb : Nat.beq (ρ i) (ρ j) with | false => rfl | true => exact absurd (Nat.eq_of_beq_eq_true hb) e)
theorem outR_ren {ρ : Nat → Nat} : ∀ (ns : List Nat) (base base' : Nat), (∀ j, j < ns.length → ρ (base + j) = base' + j) → (outR base ns).map (renL ρ) = outR base' ns
  | [], _, _, _ => rfl
  | n :: ns, base, base', h => by
    have h0 : ρ base = base' := h 0 (by simp)
    rw [outR, outR, List.map_cons, outR_ren ns (base + 1) (base' + 1) fun j hj => by have := h (j + 1) (by simpa using hj); rw [show base + 1 + j = base + (j + 1) by omega, this]; omega]
    simp only [renL, renA, h0]
theorem outR_ids {n : Nat} : ∀ (ns : List Nat) (base : Nat), base + ns.length ≤ n → (outR base ns).all (idsOkL n) = true
  | [], _, _ => rfl
  | a :: ns, base, h => by
    rw [List.length_cons] at h
    rw [outR, List.all_cons, outR_ids ns (base + 1) (by omega)]
    simp only [idsOkL, idsOk, Nat.blt_eq, Bool.and_true]
    omega
end Go.Proofs.Ytljpgbgokjiamaa.Aw

namespace Go.Proofs.Ytljpgbgokjiamaa.St
open Go Go.RowKit Go.Proofs.Ytljpgbgokjiamaa.Aw
set_option linter.unusedSimpArgs false
set_option linter.unusedVariables false
def nlR (N i base : Nat) : List (List AV) := outR base (List.replicate i 0) ++ List.replicate (N - i) [.v (.slice none 0 0)]
theorem nlR_get {N i base : Nat} (h : i < N) : (nlR N i base)[i]? = some [.v (.slice none 0 0)] := by
  have hl : (outR base (List.replicate i 0)).length = i := by rw [outR_len, List.length_replicate]
  unfold nlR
  rw [List.getElem?_append_right (by omega), hl, Nat.sub_self, List.getElem?_replicate, if_pos (by omega)]
theorem nlR_set {N i base : Nat} (h : i < N) : (nlR N i base).set i [.sl (base + i) 0 0] = nlR N (i + 1) base := by
  have hl : (outR base (List.replicate i 0)).length = i := by rw [outR_len, List.length_replicate]
  unfold nlR
  obtain ⟨d, hd⟩ : ∃ d, N - i = d + 1 := ⟨N - i - 1, by omega⟩
  rw [List.set_append_right _ _ (by omega), hl, Nat.sub_self, hd, List.replicate_succ, List.set_cons_zero, show N - (i + 1) = d by omega, List.replicate_succ', outR_app, List.length_replicate, List.append_assoc]
  rfl
theorem aw_nils {P : Program} {Nn g : Nat} {T : Tp} {Q : Exit → Tp → Hp → Nat → Prop} {c : Code} (k0 base M : Nat) (ety : TypeId) {ty : TypeId} (hk : k0 < base) : ∀ (d i : Nat) (H : Hp), i + d = M → Aw.look H k0 = some ⟨ty, 1, false, nlR M i base⟩ → NstIn H base (List.replicate i ⟨ety, 1, true, []⟩) →
    (∀ H', Aw.look H' k0 = some ⟨ty, 1, false, nlR M M base⟩ → NstIn H' base (List.replicate M ⟨ety, 1, true, []⟩) → (∀ j, j ≠ k0 → j < base → Aw.look H' j = Aw.look H j) → AW P Nn g c Q T H' (base + M)) → AW P Nn g c Q T H (base + i)
  | 0, i, H, hd, hl, hn, h => by
    obtain rfl : i = M := by omega
    exact h H hl hn fun _ _ _ => rfl
  | d + 1, i, H, hd, hl, hn, h => by
    refine aw_nilB k0 i 0 ety 1 hl (by
      cases hb : Nat.beq (base + i) k0 with
      | false => rfl
      | true => have := Nat.eq_of_beq_eq_true hb; omega) (nlR_get (by omega)) rfl (nlR_set (by omega)) ?_
    refine aw_nils k0 base M ety hk d (i + 1) _ (by omega) (by rw [look_cons, if_pos rfl]) (fun j b hj => ?_) (fun H' g1 g2 g3 => h H' g1 g2 fun j h1 h2 => ?_)
    · rw [List.getElem?_replicate] at hj
      split at hj
      · rename_i hji
        cases hj
        rw [look_cons, if_neg (by omega), look_cons]
        by_cases e : base + i = base + j
        · rw [if_pos e]
        · rw [if_neg e]
          exact hn j _ (by rw [List.getElem?_replicate, if_pos (by omega)])
      · cases hj
    · rw [g3 j h1 h2, look_cons, if_neg (fun e => h1 e.symm), look_cons, if_neg (by omega)]
end Go.Proofs.Ytljpgbgokjiamaa.St

namespace Go.Proofs.Ytljpgbgokjiamaa.Il
open Go Go.RowKit Go.Proofs.Ytljpgbgokjiamaa.Aw Go.Proofs.Ytljpgbgokjiamaa.In
set_option linter.unusedSimpArgs false
set_option linter.unusedVariables false
attribute [local irreducible] AW SQ Step RO RC DE Thn InB
def up (z : Int) (i : Nat) : Int := z + (i : Int)
end Go.Proofs.Ytljpgbgokjiamaa.Il

namespace Go.Proofs.Ytljpgbgokjiamaa.Nb
open Go Go.RowKit Go.Proofs.Ytljpgbgokjiamaa.Aw Go.Proofs.Ytljpgbgokjiamaa.In Go.Proofs.Ytljpgbgokjiamaa.Il
set_option linter.unusedSimpArgs false
set_option linter.unusedVariables false
set_option linter.unusedSectionVars false
attribute [local irreducible] AW SQ Step RO RC DE Thn InB
def niB (k : Nat) (ls : List (List Int)) : Blk := ⟨24, 1, false, outR (k + 1) (ls.map List.length)⟩
def niT (ls : List (List Int)) : List Blk := ls.map fun l => ⟨2, 1, true, l.map inL⟩
theorem niT_len (ls : List (List Int)) : (niT ls).length = ls.length := List.length_map _
theorem niT_get {ls : List (List Int)} {j : Nat} {b : Blk} (h : (niT ls)[j]? = some b) : ∃ hj : j < ls.length, b = ⟨2, 1, true, ls[j].map inL⟩ := by
  have hj := nlt h
  rw [niT_len] at hj
  refine ⟨hj, ?_⟩
  simp only [niT, List.getElem?_map, List.getElem?_eq_getElem hj, Option.map_some, Option.some.injEq] at h
  exact h.symm
theorem renB_pl (ρ : Nat → Nat) {b : Blk} (h : b.pl = true) : renB ρ b = b := by
  obtain ⟨ty, sz, pl, rows⟩ := b
  dsimp only at h
  subst h; rfl
theorem sub_nest {g n' : Nat} {T : Tp} {H : Hp} {ρ : Nat → Nat} {T' : Tp} {b : Blk} {bs : List Blk} (ht : subT T ρ n' T') (hb : Aw.look H (ρ 0) = some (renB ρ b)) (hi : idsOkB n' b = true)
    (hn : ∀ (j : Nat) (c : Blk), bs[j]? = some c → Aw.look H (ρ (1 + j)) = some c ∧ c.pl = true) (hl : 1 + bs.length ≤ n') (hj : ∀ i j, i ≤ bs.length → j ≤ bs.length → ρ i = ρ j → i = j) (hp : PinOk g ρ n') : Sub g T H ρ T' ((0, b) :: nst 1 bs) n' := by
  refine ⟨ht, ⟨⟨hb, hi, ?_⟩, ?_⟩, ?_, hp⟩
  · rw [Nat.blt_eq]; omega
  · have := subH_nst (H := H) (ρ := ρ) (n' := n') bs 1 [] (fun j c hc => ?_) trivial
    · rwa [List.append_nil] at this
    · obtain ⟨h1, h2⟩ := hn j c hc
      have := nlt hc
      refine ⟨by rw [renB_pl ρ h2]; exact h1, ?_, by rw [Nat.blt_eq]; omega⟩
      obtain ⟨ty, sz, pl, rows⟩ := c
      dsimp only at h2
      subst h2; rfl
  · refine injB_of fun a ha c hc => hj a c ?_ ?_
    · rw [List.map_cons, nst_keys] at ha
      rcases List.mem_cons.1 ha with rfl | ha
      · exact Nat.zero_le _
      · have := List.mem_range'_1.1 ha; omega
    · rw [List.map_cons, nst_keys] at hc
      rcases List.mem_cons.1 hc with rfl | hc
      · exact Nat.zero_le _
      · have := List.mem_range'_1.1 hc; omega
theorem shH_nst (n : Nat) : ∀ (bs : List Blk) (base : Nat), (∀ b ∈ bs, b.pl = true) → shH n (nst base bs) = nst (base + n) bs
  | [], _, _ => rfl
  | b :: bs, base, h => by
    have := shH_nst n bs (base + 1) fun c hc => h c (List.mem_cons_of_mem _ hc)
    rw [nst, nst, ← (by omega : base + 1 + n = base + n + 1), ← this]
    show (base + n, renB _ b) :: _ = _
    rw [renB_pl _ (h b List.mem_cons_self)]; rfl
theorem shH_ni (m : Nat) (ls : List (List Int)) : shH m ((0, niB 0 ls) :: nst 1 (niT ls)) = (m, niB m ls) :: nst (m + 1) (niT ls) := by
  have h1 := shH_nst m (niT ls) 1 fun b hb => by
    obtain ⟨j, hj⟩ := List.getElem?_of_mem hb
    obtain ⟨_, rfl⟩ := niT_get hj; rfl
  have h2 : renB (fun i => i + m) (niB 0 ls) = niB m ls := by
    unfold niB renB
    dsimp only
    rw [outR_ren _ 1 (m + 1) fun j hj => by omega]
  show (0 + m, renB _ (niB 0 ls)) :: shH m (nst 1 (niT ls)) = _
  rw [h1, h2, Nat.zero_add, Nat.add_comm 1 m]
theorem full_ni (ls : List (List Int)) : fullB ((0, niB 0 ls) :: nst 1 (niT ls)) (ls.length + 1) = true := by
  have hsz : ∀ (bs : List Blk) (base n : Nat), (∀ b ∈ bs, b.size = 1) → base + bs.length ≤ n → (nst base bs).all (fun p => Nat.blt p.1 n && !Nat.beq p.2.size 1000003) = true := by
    intro bs
    induction bs with
    | nil => intros; rfl
    | cons b bs ih =>
      intro base n h hn
      rw [List.length_cons] at hn
      rw [nst, List.all_cons, ih (base + 1) n (fun c hc => h c (List.mem_cons_of_mem _ hc)) (by omega), Bool.and_true]
      dsimp only
      rw [h b List.mem_cons_self]
      have : Nat.blt base n = true := by rw [Nat.blt_eq]; omega
      rw [this]; rfl
  unfold fullB
  rw [Bool.and_eq_true, List.all_cons, hsz (niT ls) 1 _ (fun b hb => by
    obtain ⟨j, hj⟩ := List.getElem?_of_mem hb
    obtain ⟨_, rfl⟩ := niT_get hj; rfl) (by rw [niT_len]; omega)]
  refine ⟨?_, List.all_eq_true.2 fun i hi => ?_⟩
  · have : Nat.blt 0 (ls.length + 1) = true := by rw [Nat.blt_eq]; omega
    dsimp only; rw [this]; rfl
  · have hi := List.mem_range.1 hi
    rw [look_cons]
    split
    · rfl
    · rw [look_nst, if_pos (by omega), List.getElem?_eq_getElem (by rw [niT_len]; omega)]; rfl
theorem nd_ni (ls : List (List Int)) : ((0, niB 0 ls) :: nst 1 (niT ls)).all (fun p => noDeepB p.2) = true := by
  have h1 : ∀ (ns : List Nat) (base : Nat), (outR base ns).all noDeepL = true := by
    intro ns
    induction ns with
    | nil => intro base; rfl
    | cons n ns ih => intro base; rw [outR, List.all_cons, ih]; rfl
  have h2 : ∀ (bs : List Blk) (base : Nat), (∀ b ∈ bs, noDeepB b = true) → (nst base bs).all (fun p => noDeepB p.2) = true := by
    intro bs
    induction bs with
    | nil => intros; rfl
    | cons b bs ih => intro base h; rw [nst, List.all_cons, ih _ fun c hc => h c (List.mem_cons_of_mem _ hc), h b List.mem_cons_self]; rfl
  rw [List.all_cons, h2 _ _ fun b hb => by
    obtain ⟨j, hj⟩ := List.getElem?_of_mem hb
    obtain ⟨_, rfl⟩ := niT_get hj; rfl, Bool.and_true]
  exact h1 _ _
theorem fin_ni {P : Program} {rs : List ResultVar} {X B : Nat} {T : Tp} {H : Hp} {ls : List (List Int)} {u v : AV} (ht : ResV P T H rs u) (hu : u = renA (fun z => if z = 0 then X else B + (z - 1)) v) (hi : idsOk (ls.length + 1) v = true) (hd : noDeep v = true)
    (hb : Aw.look H X = some ⟨24, 1, false, outR B (ls.map List.length)⟩) (hn : NstIn H B (niT ls)) (hx : X < B ∨ B + ls.length ≤ X) : FinOk P rs v ((0, niB 0 ls) :: nst 1 (niT ls)) (ls.length + 1) T H := by
  have hs : Sub 0 T H (fun z => if z = 0 then X else B + (z - 1)) [] ((0, niB 0 ls) :: nst 1 (niT ls)) (ls.length + 1) := by
    refine sub_nest trivial ?_ ?_ (fun j c hc => ?_) (by rw [niT_len]; omega) (fun i j hi hj he => ?_) pin_0
    · rw [if_pos rfl, hb]
      unfold niB renB
      dsimp only
      rw [outR_ren _ 1 B fun j hj => by rw [if_neg (by omega)]; omega]
    · exact outR_ids _ _ (by rw [List.length_map]; omega)
    · obtain ⟨_, rfl⟩ := niT_get hc
      refine ⟨?_, rfl⟩
      rw [if_neg (by omega), show B + (1 + j - 1) = B + j by omega]
      exact hn j _ hc
    · rw [niT_len] at hi hj
      split at he <;> split at he <;> omega
  exact ⟨⟨u, _, ht, hu, hs.h, hs.i⟩, hi, hd, nd_ni ls⟩
end Go.Proofs.Ytljpgbgokjiamaa.Nb

namespace Go.Proofs.Ytljpgbgokjiamaa.Nb
open Go Go.RowKit Go.Proofs.Ytljpgbgokjiamaa.Aw Go.Proofs.Ytljpgbgokjiamaa.In Go.Proofs.Ytljpgbgokjiamaa.Il
set_option linter.unusedSimpArgs false
set_option linter.unusedVariables false
set_option linter.unusedSectionVars false
attribute [local irreducible] AW SQ Step RO RC DE Thn InB
theorem nmC_range {b k n i : Nat} (h : i ≤ n) : nmC (List.range' b (n + 1)) k i = b + i := by
  unfold nmC
  rw [List.getElem?_range' (by omega)]
  dsimp only; omega
theorem renH_nst {σ : Nat → Nat} : ∀ (bs : List Blk) (base base' : Nat), (∀ b ∈ bs, b.pl = true) → (∀ j, j < bs.length → σ (base + j) = base' + j) → renH σ (nst base bs) = nst base' bs
  | [], _, _, _, _ => rfl
  | b :: bs, base, base', h, hj => by
    have h0 : σ base = base' := hj 0 (by simp)
    have := renH_nst (σ := σ) bs (base + 1) (base' + 1) (fun c hc => h c (List.mem_cons_of_mem _ hc)) fun j hl => by
      have := hj (j + 1) (by simpa using hl)
      rw [show base + 1 + j = base + (j + 1) by omega, this]; omega
    show (σ base, renB σ b) :: renH σ (nst (base + 1) bs) = _
    rw [this, h0, renB_pl _ (h b List.mem_cons_self)]; rfl
theorem niT_pl (ls : List (List Int)) : ∀ b ∈ niT ls, b.pl = true := fun b hb => by
  obtain ⟨j, hj⟩ := List.getElem?_of_mem hb
  obtain ⟨_, rfl⟩ := niT_get hj; rfl
end Go.Proofs.Ytljpgbgokjiamaa.Nb

namespace Go.Proofs.Ytljpgbgokjiamaa.Nb
open Go Go.RowKit Go.Proofs.Ytljpgbgokjiamaa.Aw Go.Proofs.Ytljpgbgokjiamaa.In Go.Proofs.Ytljpgbgokjiamaa.Il
set_option linter.unusedSimpArgs false
set_option linter.unusedVariables false
set_option linter.unusedSectionVars false
attribute [local irreducible] AW SQ Step RO RC DE Thn InB
def Pl (bs : List Blk) : Prop := ∀ b ∈ bs, b.pl = true ∧ b.size = 1
theorem allN (f : Nat × Blk → Bool) : ∀ (bs : List Blk) (base : Nat), (∀ (j : Nat) (b : Blk), bs[j]? = some b → f (base + j, b) = true) → (nst base bs).all f = true
  | [], _, _ => rfl
  | b :: bs, base, h => by
    have h00 : f (base, b) = true := h 0 b rfl
    rw [nst, List.all_cons, h00, allN f bs (base + 1) fun j c hc => by have := h (j + 1) c (by simpa using hc); rwa [show base + (j + 1) = base + 1 + j by omega] at this]
    rfl
end Go.Proofs.Ytljpgbgokjiamaa.Nb

namespace Go.Proofs.Ytljpgbgokjiamaa.Aw
open Go Go.RowKit
set_option linter.unusedVariables false
section
variable {P : Program} {Old : Nat → Prop} {wi : WI Old} {K : Nat → Prop} {m : Nat → Loc} {S : Nat → Prop} {H H' : Hp} {w : World} {N n g : Nat} {T : Tp} {a : Act} {Q : Exit → Tp → Hp → Nat → Prop}
def KD (m : Nat → Loc) (H : Hp) (D : Nat → Prop) (K : Nat → Prop) (k : Nat) : Prop := K k ∨ ∃ i b, D i ∧ look H i = some b ∧ (m i).ph = false ∧ k = (m i).blk
theorem kd_rel {D : Nat → Prop} (hr : Rel Old wi K m S H w) (ht : TRel K w m S N T a) (hH : ∀ i b, look H' i = some b → look H i = some b ∧ ¬ D i) {T1 : Tp}
    (hT : ∀ t v', look T1 t = some v' → ∃ v, look T t = some v ∧ ∀ x, VR K w m S v x → VR (KD m H D K) w m S v' x) :
    GK Old K (KD m H D K) ∧ Rel Old wi (KD m H D K) m S H' w ∧ TRel (KD m H D K) w m S N (T1 ++ T) a := by
  have hK : ∀ k, K k → KD m H D K k := fun k h => .inl h
  refine ⟨⟨hK, fun k h ho => ?_⟩, ?_, ht.dn, ht.sz, fun t av h => ?_⟩
  · rcases h with h | ⟨i, b, _, hl, hp, rfl⟩
    · exact h
    · exact absurd ho (hr.oown i b hl hp)
  · refine { os := hr.os, tape := hr.tape, output := hr.output, size := hr.size, old := hr.old, olt := hr.olt, oown := fun i bi h => hr.oown i bi (hH i bi h).1, om := fun i bi h hp hq => ⟨(hr.om i bi (hH i bi h).1 hp hq).1, .inl (hr.om i bi (hH i bi h).1 hp hq).2.1, (hr.om i bi (hH i bi h).1 hp hq).2.2⟩, kb := fun k h => ?_, inS := fun i bi h => hr.inS i bi (hH i bi h).1, pin := hr.pin, pinS := hr.pinS, own := fun i bi h => ?_, inj := fun i j bi bj hi hj hne => hr.inj i j bi bj (hH i bi hi).1 (hH j bj hj).1 hne }
    · rcases h with h | ⟨i, b, _, hl, hp, rfl⟩
      · exact hr.kb k h
      · rcases hr.own i b hl with h | h
        · rw [hp] at h; cases h.1
        · exact h.2.lt_size
    · obtain ⟨hi, hne⟩ := hH i bi h
      refine (hr.own i bi hi).mono2 hK (fun hp hk => ?_) (fun _ _ => rfl) (fun _ _ => rfl) (fun _ h => h) (fun _ _ => rfl) (hr.inS i bi hi)
      rcases hk with hk | ⟨j, b, hd, hl, hp2, he⟩
      · exact hk
      · by_cases e : i = j
        · subst e; exact absurd hd hne
        · exact absurd he (hr.inj i j bi b hi hl e hp hp2)
  · rw [look_append] at h
    cases h1 : look T1 t with
    | some v' =>
      rw [h1] at h
      simp only [Option.some_or, Option.some.injEq] at h
      subst h
      obtain ⟨v, hv, hf⟩ := hT t v' h1
      exact hf _ (ht.tm t v hv)
    | none =>
      rw [h1] at h
      exact (ht.tm t av (by simpa using h)).mono hK (fun _ _ => rfl) (fun _ h => h) (fun _ _ => rfl)
theorem out_vr {K' : Nat → Prop} {id len ty : Nat} {pl : Bool} {rows rows' : List (List AV)} (hr : Rel Old wi K m S H w) (hl : look H id = some ⟨ty, 1, pl, rows⟩) (hk : (m id).ph = false → K' (m id).blk) (hlen : rows'.length = rows.length) (he : len = rows.length)
    (hrow : ∀ (r : Nat) (row' : List AV), rows'[r]? = some row' → ∃ cv cv', row' = [cv'] ∧ rows[r]? = some [cv] ∧ ∀ x, VR K w m (fun i => S i ∧ pl = false) cv x → VR K' w m NoS cv' x) {S' : Nat → Prop} {x : Value} (hv : VR K w m S (.sl id 0 len) x) : VR K' w m S' (.dsl 1 rows') x := by
  cases hv with
  | sl0 _ _ _ ad hS =>
    have : rows' = [] := List.length_eq_zero_iff.1 (by omega)
    subst this; exact .dsl0 _ _ _ _
  | sl _ _ _ _ p c hS hph hp hcc =>
    rcases hr.own id _ hl with ⟨h, _⟩ | ⟨_, hb⟩
    · rw [hph] at h; cases h
    obtain ⟨cur, h1, h2, h3⟩ := hb.ex
    have hcap := hb.cap
    have hsz := hb.sz
    have p0 : p = 0 := by rw [hp, Nat.zero_mul]
    subst p0
    have cell : ∀ (r : Nat) (row' : List AV), rows'[r]? = some row' → ∃ cv' y, row' = [cv'] ∧ w.cell? ⟨(m id).blk, r, none⟩ = some y ∧ y.oneCell' = true ∧ VR K' w m NoS cv' y := by
      intro r row' hr'
      obtain ⟨cv, cv', e1, e2, e3⟩ := hrow r row' hr'
      obtain ⟨y, hy, hone, hvy⟩ := (h3 r _ e2).2 0 cv rfl
      refine ⟨cv', y, e1, ?_, hone, e3 y hvy⟩
      have : w.cell? ⟨(m id).blk, r * 1 + 0, none⟩ = some y := by
        rw [cell_of_row w _ _ _ _ _ h1]; exact hy
      simpa using this
    refine .dsl _ 1 rows' len (m id).blk 0 c (fun r j => (w.cell? ⟨(m id).blk, r, none⟩).getD undef) (he.trans hlen.symm) ?_ (hk hph) (fun r row' h => ?_) (fun r row' j cv h hj => ?_) (fun r row' j cv h hj => ?_)
    · dsimp only at hcap; rw [hlen]; omega
    · obtain ⟨cv', y, e1, _⟩ := cell r row' h; rw [e1]; rfl
    · obtain ⟨cv', y, e1, e2, e3, _⟩ := cell r row' h
      subst e1
      have j0 : j = 0 := by
        cases j with
        | zero => rfl
        | succ j => simp at hj
      subst j0
      rw [show 0 + r * 1 + 0 = r by omega, e2]
      exact ⟨rfl, e3⟩
    · obtain ⟨cv', y, e1, e2, e3, e4⟩ := cell r row' h
      subst e1
      have j0 : j = 0 := by
        cases j with
        | zero => rfl
        | succ j => simp at hj
      subst j0
      simp only [List.getElem?_cons_zero, Option.some.injEq] at hj
      subst hj
      rw [e2]; exact e4
theorem nest_vr {k0 len : Nat} {ty ity : TypeId} {Ls : List (List (List AV))} {D : Nat → Prop} (hr : Rel Old wi K m S H w) (hl : look H k0 = some (nestB ty k0 Ls)) (hn : NstIn H (k0 + 1) (Ls.map (blkR ity))) (hno : ∀ L ∈ Ls, L.all noOwnL = true) (he : len = Ls.length)
    (hD : ∀ i, k0 ≤ i → i ≤ k0 + Ls.length → D i) {x : Value} (hv : VR K w m S (.sl k0 0 len) x) : VR (KD m H D K) w m S (.dsl 1 (Ls.map fun rows => [.dsl 1 rows])) x := by
  have hlen := outR_len (Ls.map List.length) (k0 + 1)
  rw [List.length_map] at hlen
  refine out_vr hr hl (fun hp => .inr ⟨k0, _, hD k0 (Nat.le_refl _) (by omega), hl, hp, rfl⟩) (by rw [List.length_map, hlen]) (by rw [hlen]; exact he) (fun r row' h => ?_) hv
  rw [List.getElem?_map] at h
  cases hr' : Ls[r]? with
  | none => rw [hr'] at h; cases h
  | some rows =>
    rw [hr'] at h
    simp only [Option.map_some, Option.some.injEq] at h
    have hrl : r < Ls.length := (List.getElem?_eq_some_iff.1 hr').1
    refine ⟨.sl (k0 + 1 + r) 0 rows.length, .dsl 1 rows, h.symm, ?_, fun y hy => ?_⟩
    · show (outR (k0 + 1) (Ls.map List.length))[r]? = _
      rw [outR_get, List.getElem?_map, hr']; rfl
    · have hb := hn r (blkR ity rows) (by rw [List.getElem?_map, hr']; rfl)
      have hf : Frz (k0 + 1 + r) (blkR ity rows) (.sl (k0 + 1 + r) 0 rows.length) (.dsl 1 rows) := by
        have := Frz.sl (id := k0 + 1 + r) (b := blkR ity rows) 0 rows.length (by show 0 + rows.length ≤ rows.length; omega)
        have e : ((blkR ity rows).rows.drop 0).take rows.length = rows := by show (rows.drop 0).take rows.length = rows; rw [List.drop_zero, List.take_length]
        rw [e] at this; exact this
      have := hf.vr hr hb (Closed.of (hno rows (List.mem_of_getElem? hr'))) (K' := KD m H D K) (fun k h => .inl h) (fun hp => .inr ⟨k0 + 1 + r, _, hD _ (by omega) (by omega), hb, hp, rfl⟩) (S' := NoS) (hy.mono (fun _ h => h) (fun _ _ => rfl) (fun _ h => h.1) (fun _ _ => rfl))
      exact this
theorem aw_frzN {c : Code} {t k0 len : Nat} {ty ity : TypeId} (Ls : List (List (List AV))) (rows : List (List AV)) (H' : Hp) (ht : look T t = some (.sl k0 0 len)) (hl : look H k0 = some (nestB ty k0 Ls)) (hn : NstIn H (k0 + 1) (Ls.map (blkR ity))) (hno : ∀ L ∈ Ls, L.all noOwnL = true) (he : len = Ls.length)
    (hrr : (Ls.map fun rows => [.dsl 1 rows]) = rows) (hH : ∀ i b, look H' i = some b → look H i = some b ∧ ¬ (k0 ≤ i ∧ i ≤ k0 + Ls.length)) (h : AW P N g c Q ((t, .dsl 1 rows) :: T) H' n) : AW P N g c Q T H n := fun Old wi K m a w hp hr htt rr => by
  subst hrr
  obtain ⟨gk, hr', ht'⟩ := kd_rel (D := fun i => k0 ≤ i ∧ i ≤ k0 + Ls.length) (T1 := [(t, .dsl 1 (Ls.map fun rows => [.dsl 1 rows]))]) hr htt hH fun u v' hu => by
    rw [look_cons] at hu
    split at hu
    · rename_i e
      subst e
      cases hu
      exact ⟨_, ht, fun x hx => nest_vr hr hl hn hno he (fun i h1 h2 => ⟨h1, h2⟩) hx⟩
    · simp [look_nil] at hu
  exact Go.wpIn_mono (h Old wi _ m a w hp hr' ht' rr) fun _ _ _ ⟨T', H', n', m', K'', g2, h1, h2⟩ => ⟨T', H', n', m', K'', gk.trans g2, h1, h2⟩
end
end Go.Proofs.Ytljpgbgokjiamaa.Aw
