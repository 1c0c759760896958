/-
  The law FnTraffic: plain facts and the walk.
-/
import Derived.Test.YtkogkkbiocejkaaBusy
import Derived.Test.YtkogkkbiocejkaaShare
import Derived.Test.YtkogkkbiocejkaaPlan
import Derived.Test.YtkogkkbiocejkaaErlMath
import Derived.Test.YtkogkkbiocejkaaR8
namespace Go.Proofs.Ytkogkkbiocejkaa.Tr
open Go.RowKit Go.Proofs.Ytkogkkbiocejkaa.Mt Go.Proofs.Ytkogkkbiocejkaa.Wk Go.Proofs.Ytkogkkbiocejkaa.Mm Go.Proofs.Ytkogkkbiocejkaa.Al Go.Proofs.Ytkogkkbiocejkaa.Sl Go.Proofs.Ytkogkkbiocejkaa.Er Go.Proofs.Ytkogkkbiocejkaa.R8
open Go.Proofs.Ytkogkkbiocejkaa.Bu (wsum wsum_bd bh bh_bd vBusy)
open Go.Proofs.Ytkogkkbiocejkaa.Sh (pre upto parts parts_len pre_bd pre_mono upto_bd vShare)
open Go.Proofs.Ytkogkkbiocejkaa.Pl (plan plan_len okAll okAll_iff tot tot_bd vPlan chN_hi)

/-! ### plain facts -/
theorem bh_spec (zs : List Int) (H : Nat) (h : ∀ i, i < zs.length → 0 ≤ zs.getD i 0 ∧ zs.getD i 0 ≤ 200000000) (K : Nat) (hK : K + H ≤ zs.length) :
    ∃ b : Nat, b ≤ K ∧ (bh zs H (K + 1)).1 = b ∧ (bh zs H (K + 1)).2 = wsum zs b H ∧ ∀ k, k ≤ K → wsum zs k H ≤ (bh zs H (K + 1)).2 := by
  induction K with
  | zero =>
    have := (wsum_bd zs 0 H h (by omega)).1
    have e : bh zs H 1 = ((0 : Int), wsum zs 0 H) := by
      show (if (-1 : Int) < wsum zs 0 H then (((0 : Nat) : Int), wsum zs 0 H) else (0, -1)) = _
      rw [if_pos (by omega)]; rfl
    rw [e]
    exact ⟨0, Nat.le_refl _, rfl, rfl, fun k hk => by obtain rfl : k = 0 := by omega
                                                      exact Int.le_refl _⟩
  | succ K ih =>
    obtain ⟨b, hb, h1, h2, h3⟩ := ih (by omega)
    have e : bh zs H (K + 1 + 1) = if (bh zs H (K + 1)).2 < wsum zs (K + 1) H then (((K + 1 : Nat) : Int), wsum zs (K + 1) H) else bh zs H (K + 1) := rfl
    by_cases hlt : (bh zs H (K + 1)).2 < wsum zs (K + 1) H
    · rw [if_pos hlt] at e
      rw [e]
      refine ⟨K + 1, Nat.le_refl _, rfl, rfl, fun k hk => ?_⟩
      rcases Nat.lt_or_eq_of_le hk with h | h
      · have := h3 k (by omega)
        show wsum zs k H ≤ wsum zs (K + 1) H
        omega
      · subst h; exact Int.le_refl _
    · rw [if_neg hlt] at e
      rw [e]
      refine ⟨b, by omega, h1, h2, fun k hk => ?_⟩
      rcases Nat.lt_or_eq_of_le hk with h | h
      · exact h3 k (by omega)
      · subst h; omega

theorem upto_zero (load : Int) (zs : List Int) : upto load zs 0 = 0 := by simp [upto, pre]
theorem upto_full (load : Int) (zs : List Int) (h : 1 ≤ pre zs zs.length) : upto load zs zs.length = load := by
  unfold upto; exact Int.mul_ediv_cancel _ (by omega)
theorem parts_get (load : Int) (zs : List Int) (n i : Nat) (h : i < n) : (parts load zs n).getD i 0 = upto load zs (i + 1) - upto load zs i := by
  simp [parts, List.getD_eq_getElem?_getD, List.getElem?_map, List.getElem?_range h]
theorem upto_mono (load : Int) (zs : List Int) (h : ∀ i, i < zs.length → 0 ≤ zs.getD i 0 ∧ zs.getD i 0 ≤ 1000000) (h0 : 0 ≤ load) (hp : 1 ≤ pre zs zs.length) (k : Nat) (hk : k < zs.length) :
    upto load zs k ≤ upto load zs (k + 1) ∧ (zs.getD k 0 = 0 → upto load zs (k + 1) = upto load zs k) := by
  constructor
  · unfold upto
    have := h k hk
    refine Int.ediv_le_ediv (by omega) (Int.mul_le_mul_of_nonneg_left ?_ h0)
    simp only [pre]; omega
  · intro e
    unfold upto
    simp only [pre, e, Int.add_zero]

def wts (W : Nat → Int) (j : Nat) : List Int := 1 :: (List.range j).map W
def lds (W : Nat → Int) (j : Nat) : List Int := (List.range j).map W
theorem wts_len (W : Nat → Int) (j : Nat) : (wts W j).length = j + 1 := by simp [wts]
theorem lds_len (W : Nat → Int) (j : Nat) : (lds W j).length = j := by simp [lds]
theorem wts_succ (W : Nat → Int) (j : Nat) : wts W (j + 1) = wts W j ++ [W j] := by simp [wts, List.range_succ]
theorem lds_succ (W : Nat → Int) (j : Nat) : lds W (j + 1) = lds W j ++ [W j] := by simp [lds, List.range_succ]
theorem lds_get (W : Nat → Int) (j i : Nat) (h : i < j) : (lds W j).getD i 0 = W i := by
  simp [lds, List.getD_eq_getElem?_getD, List.getElem?_map, List.getElem?_range h]
theorem wts_bd (W : Nat → Int) (hW : ∀ i, 0 ≤ W i ∧ W i < 100) (j i : Nat) (h : i < (wts W j).length) : 0 ≤ (wts W j).getD i 0 ∧ (wts W j).getD i 0 ≤ 1000000 := by
  rw [wts_len] at h
  cases i with
  | zero => simp [wts]
  | succ i =>
    have e : (wts W j).getD (i + 1) 0 = W i := by
      simp [wts, List.getD_eq_getElem?_getD, List.getElem?_map, List.getElem?_range (show i < j by omega)]
    have := hW i
    rw [e]; omega
theorem wts_pre (W : Nat → Int) (hW : ∀ i, 0 ≤ W i ∧ W i < 100) (j : Nat) : 1 ≤ pre (wts W j) (wts W j).length := by
  have h1 := pre_mono (wts W j) (wts_bd W hW j) 1 (wts W j).length (by rw [wts_len]; omega) (Nat.le_refl _)
  have h2 : pre (wts W j) 1 = 1 := by simp [pre, wts]
  omega
theorem allB_of {zs : List Int} {lo hi : Int} (h : ∀ i, i < zs.length → lo ≤ zs.getD i 0 ∧ zs.getD i 0 ≤ hi) : allB zs lo hi = true :=
  (allB_iff zs lo hi).2 fun i hi' => by unfold bad; rw [inB_mk (h i hi').1 (h i hi').2]; rfl

theorem vShare_ok (W : Nat → Int) (hW : ∀ i, 0 ≤ W i ∧ W i < 100) (j : Nat) (hj : j ≤ 8) (load : Int) (h0 : 0 ≤ load) (h1 : load ≤ 200000000) :
    vShare load (wts W j) = (parts load (wts W j) (j + 1), 0) := by
  unfold vShare
  have := wts_pre W hW j
  rw [if_pos ⟨inB_mk h0 h1, allB_of (wts_bd W hW j)⟩, if_neg (by rw [wts_len]; omega), if_neg (by omega), wts_len]
theorem lds_bd (V : Nat → Int) (hV : ∀ i, 0 ≤ V i ∧ V i ≤ 2560000) (j i : Nat) (h : i < (lds V j).length) : 0 ≤ (lds V j).getD i 0 ∧ (lds V j).getD i 0 ≤ 200000000 := by
  rw [lds_len] at h
  have := hV i
  rw [lds_get V j i h]; omega
theorem vBusy_ok (V : Nat → Int) (hV : ∀ i, 0 ≤ V i ∧ V i ≤ 2560000) (j H : Nat) (hj : j ≤ 8) (hH : 1 ≤ H) (hHj : H ≤ j) :
    ∃ b : Nat, b + H ≤ j ∧ ∃ m, vBusy (lds V j) H = ((b : Int), m, 0) ∧ m = wsum (lds V j) b H ∧ ∀ k, k + H ≤ j → wsum (lds V j) k H ≤ m := by
  obtain ⟨b, hb, h1, h2, h3⟩ := bh_spec (lds V j) H (lds_bd V hV j) (j - H) (by rw [lds_len]; omega)
  refine ⟨b, by omega, (bh (lds V j) H (j - H + 1)).2, ?_, h2, fun k hk => h3 k (by omega)⟩
  unfold vBusy
  rw [if_pos ⟨allB_of (lds_bd V hV j), inB_mk (by omega) (by omega)⟩, if_neg (by rw [lds_len]; omega), if_neg (by rw [lds_len]; omega), Int.toNat_natCast, lds_len, show j + 1 - H = j - H + 1 from by omega, ← h1]
theorem ch_ok (x : Int) (h0 : 0 ≤ x) (h1 : x ≤ 2560000) : chOk x 20000 = true := by
  have h200 : erl x 200 ≤ 20000 := by
    have := Lo.erl_mono x 30000000 h0 (by omega) (by omega) 200
    have := Em.erl_200
    omega
  rcases idx_cases (fun i => decide (erl x i ≤ 20000)) 201 with ⟨k, hk, h1, h2, _⟩ | ⟨h1, _⟩
  · exact (ch_some x 20000 k (by omega) (fun i hi => by have := h1 i hi; simp at this; omega) (by simpa using h2)).2
  · have := h1 200 (by omega)
    simp at this
    omega
theorem vPlan_ok (V : Nat → Int) (hV : ∀ i, 0 ≤ V i ∧ V i ≤ 2560000) (j : Nat) (hj : j ≤ 8) : vPlan (lds V j) 20000 10000 = (plan 20000 (lds V j) j, 0) := by
  have ht := tot_bd 20000 (lds V j) (lds V j).length
  rw [lds_len] at ht
  unfold vPlan
  rw [if_pos ⟨allB_of (lds_bd V hV j), inB_mk (by omega) (by omega), inB_mk (by omega) (by omega)⟩, if_neg (by rw [lds_len]; omega),
    if_pos ((okAll_iff 20000 (lds V j)).2 fun i hi => by rw [lds_len] at hi; rw [lds_get V j i hi]; exact ch_ok _ (hV i).1 (hV i).2), lds_len, if_neg (by omega)]
theorem plan_get (g : Int) (zs : List Int) (n i : Nat) (h : i < n) : (plan g zs n).getD i 0 = chN (zs.getD i 0) g := by
  simp [plan, List.getD_eq_getElem?_getD, List.getElem?_map, List.getElem?_range h]


/-! ### two rows of the call's own side by side -/
def Apart (u v : Value) : Prop := ∀ k, u.ownBlock = some k → v.ownBlock ≠ some k
theorem Apart.symm {u v : Value} (h : Apart u v) : Apart v u := fun k hk hk' => h k hk' hk

theorem app2 {ops : Array Oper} {rest : List Oper} {o : Oper} {a : Act} {Q : Exit → Act → World → Prop} {w : World} (hgd : o.guard = none) (s x : Operand)
    (ho : o.op = .call { callee := .builtin .append, args := #[s, x], argTypes := #[30, 30] })
    (base : Nat) (v u : Value) (n m : Nat) (zs ys : List Int) (z : Int) (hs : a.eval s = v) (hx : a.eval x = .slice (some ⟨w.heap.size, 0, none⟩) 1 1)
    (hown : w.ownsRow base 2 1 v n (ints zs)) (hou : w.ownsRow base 2 1 u m (ints ys)) (hap : Apart v u) (hn : n ≤ 1000000000000) (hbase : base ≤ w.heap.size)
    (h : ∀ a' cap' w', w'.ownsRow base 2 1 (.slice a' (n + 1) cap') (n + 1) (ints (zs ++ [z])) → w'.ownsRow base 2 1 u m (ints ys) → Apart (.slice a' (n + 1) cap') u → Below base w w' → wpList Try.prog ops Q rest (a.put o.dst (.slice a' (n + 1) cap')) w') :
    wpList Try.prog ops Q (o :: rest) a (w.alloc (.cells #[.int .i64 z] 2)) := by
  obtain ⟨i0, hi, hz0, hz1, hz2⟩ := info_parts info64
  refine wpList_append_own_at _ hgd s x _ ho base 2 i0 (.int .i64 0) 1 8 Try.underlying30 hi hz0 hz1 hz2 rfl (by omega) v n (ints zs) hs (hown.alloc _) ⟨w.heap.size, 0, none⟩ 1 1 [.int .i64 z] hx rfl (cell_one_new _ _ _) (by simp [Value.oneCell']) (by simp only [maxLen]; omega) (by omega) (by simp; omega) ?_
  intro v' w' h1 h2 _ h3
  obtain ⟨a', cap', rfl, _, _⟩ := own_form h1
  have hb : Below base w w' := ((Below.refl base w).alloc hbase _).grown h2 (by simp; omega) fun k hk => (hown.lt k hk).1
  refine h a' cap' w' (by rw [ints_app]; exact h1) ((hou.alloc _).kept h2 ?_) ?_ hb
  · cases hu : u.ownBlock with
    | none => exact .inl rfl
    | some k => exact .inr fun e => hap k e.symm hu
  · intro k hk hk'
    rcases h3 with e | e
    · rw [e] at hk; exact hap k hk hk'
    · rw [e] at hk
      have := (hou.lt k hk').2
      simp at hk
      omega

set_option maxHeartbeats 400000 in
theorem r8Long_no (a a' : Option Addr) (n n' cap cap' : Nat) (w : World) (h : n ≤ 1048576) (h' : n' ≤ 1048576) :
    Calls Try.prog 39 #[.slice a n cap, .slice a' n' cap'] w fun e w' => e = .returned (.bool false) ∧ w = w' := by
  have d1 : decide ((1048576 : Int) < (n : Int)) = false := by simp; omega
  have d2 : decide ((1048576 : Int) < (n' : Int)) = false := by simp; omega
  go_enter Try.func39, Try.ntmps39
  go_wp2
  go_ret
  exact ⟨rfl, rfl⟩
set_option maxHeartbeats 400000 in
theorem r8Long_yes (a a' : Option Addr) (n n' cap cap' : Nat) (w : World) (h : 1048576 < n ∨ 1048576 < n') :
    Calls Try.prog 39 #[.slice a n cap, .slice a' n' cap'] w fun e w' => e = .returned (.bool true) ∧ w = w' := by
  by_cases h1 : 1048576 < n
  · have d1 : decide ((1048576 : Int) < (n : Int)) = true := by simp; omega
    clear h
    go_enter Try.func39, Try.ntmps39
    go_wp2
    go_ret
    exact ⟨rfl, rfl⟩
  · have d1 : decide ((1048576 : Int) < (n : Int)) = false := by simp; omega
    have d2 : decide ((1048576 : Int) < (n' : Int)) = true := by simp; omega
    clear h
    go_enter Try.func39, Try.ntmps39
    go_wp2
    go_ret
    exact ⟨rfl, rfl⟩

set_option maxRecDepth 100000 in
set_option maxHeartbeats 4000000 in
theorem walk (a a' : Option Addr) (n n' cap cap' : Nat) (z z' : List Int) (w : World) (w0 : IsB w a n cap z) (w1 : IsB w a' n' cap' z') :
    Calls Try.prog 13 #[.slice a n cap, .slice a' n' cap'] w fun e w' => e = .returned (.bool true) ∧ Below w.heap.size w w' := by
  obtain ⟨hB, hm⟩ := Bs.of w0
  obtain ⟨hB', hm'⟩ := Bs.of w1
  clear w0 w1
  by_cases hlong : 1048576 < n ∨ 1048576 < n'
  · go_enter Try.func13, Try.ntmps13
    go_wp2_with ((go_at_call 39; refine (r8Long_yes _ _ _ _ _ _ _ hlong).mono ?_; rintro e w' ⟨rfl, rfl⟩))
    go_ret
    exact ⟨rfl, Below.refl _ _⟩
  · obtain ⟨N, n0, n1, C1⟩ : ∃ N, 0 ≤ N ∧ N < 8 ∧ Hid (at8 z' n' 0 8 = N) := ⟨_, (at8_bd z' n' 0 8 (by omega)).1, (at8_bd z' n' 0 8 (by omega)).2, rfl⟩
    obtain ⟨L, l0, l1, C2⟩ : ∃ L, 0 ≤ L ∧ L < 60000 ∧ Hid (wide8 z' n' 1 60000 = L) := ⟨_, (wide8_bd z' n' 1 60000 (by omega)).1, (wide8_bd z' n' 1 60000 (by omega)).2, rfl⟩
    obtain ⟨H, h0, h1, C3⟩ : ∃ H, 0 ≤ H ∧ H < 1 + N ∧ Hid (at8 z' n' 3 (1 + N) = H) := ⟨_, (at8_bd z' n' 3 (1 + N) (by omega)).1, (at8_bd z' n' 3 (1 + N) (by omega)).2, rfl⟩
    obtain ⟨N, rfl⟩ := Int.eq_ofNat_of_zero_le n0
    obtain ⟨H, rfl⟩ := Int.eq_ofNat_of_zero_le h0
    obtain ⟨W, hW⟩ : ∃ W : Nat → Int, W = fun (i : Nat) => at8 z n i 100 := ⟨_, rfl⟩
    obtain ⟨V, hV⟩ : ∃ V : Nat → Int, V = fun (i : Nat) => 10000 * at8 z n (10 + i) 256 := ⟨_, rfl⟩
    have HW : Hid (∀ i : Nat, at8 z n i 100 = W i) := fun i => by rw [hW]
    have HV : Hid (∀ i : Nat, 10000 * at8 z n (10 + i) 256 = V i) := fun i => by rw [hV]
    have BW : Hid (∀ i, 0 ≤ W i ∧ W i < 100) := fun i => by rw [hW]; exact at8_bd _ _ _ _ (by omega)
    have BV : Hid (∀ i, 0 ≤ V i ∧ V i ≤ 2560000) := fun i => by rw [hV]; have := at8_bd z n (10 + i) 256 (by omega); simp only; omega
    clear hW hV n0 h0
    have e1 : n ≤ 1048576 := by omega
    have e2 : n' ≤ 1048576 := by omega
    clear hlong
    go_enter Try.func13, Try.ntmps13
    go_wp2_with fail
    refine (r8Long_no _ _ _ _ _ _ _ e1 e2).mono ?_
    rintro e w' ⟨rfl, rfl⟩
    have HBW : Below w.heap.size w ((w.alloc (.cells #[.int .i64 1] 2)).alloc (.cells #[] 2)) := ((Below.refl _ _).alloc (Nat.le_refl _) _).alloc (by simp) _
    have HO1 : ((w.alloc (.cells #[.int .i64 1] 2)).alloc (.cells #[] 2)).ownsRow w.heap.size 2 1 (.slice (some ⟨w.heap.size, 0, none⟩) 1 1) 1 (ints (wts W 0)) := ((Blk.new w 2 [.int .i64 1]).own 1 1 _ rfl (Nat.le_refl _) (by simp [maxLen])).alloc _
    have HO2 : ((w.alloc (.cells #[.int .i64 1] 2)).alloc (.cells #[] 2)).ownsRow w.heap.size 2 1 (.slice (some ⟨w.heap.size + 1, 0, none⟩) 0 0) 0 (ints (lds V 0)) := by
      have := (Blk.new (w.alloc (.cells #[.int .i64 1] 2)) 2 []).own 1 0 w.heap.size rfl (by simp) (by omega)
      simpa [lds, ints] using this
    have HAP : Apart (.slice (some ⟨w.heap.size, 0, none⟩) 1 1) (.slice (some ⟨w.heap.size + 1, 0, none⟩) 0 0) := fun k hk hk' => by
      simp [Value.ownBlock] at hk hk'; omega
    go_wp2_with fail
    refine (r8At_any _ _ _ _ z' _ _ _ hm' (by omega) (hB'.kept HBW)).mono ?_
    rintro e w' ⟨rfl, rfl⟩
    rw [C1.out]
    go_wp2_with fail
    go_loopw [5, 6, 8] (fun r5 r6 i wr => ∃ (j : Nat) (a5 a6 : Option Addr) (c5 c6 : Nat), j ≤ N + 1 ∧ i = .int .i64 (j : Int) ∧ r5 = .slice a5 (j + 1) c5 ∧ r6 = .slice a6 j c6 ∧ wr.ownsRow w.heap.size 2 1 (.slice a5 (j + 1) c5) (j + 1) (ints (wts W j)) ∧ wr.ownsRow w.heap.size 2 1 (.slice a6 j c6) j (ints (lds V j)) ∧ Apart (.slice a5 (j + 1) c5) (.slice a6 j c6) ∧ Below w.heap.size w wr) (fun _ _ i _ => N + 1 - (intOf i).toNat)
    case atStart => exact ⟨0, _, _, _, _, Nat.zero_le _, rfl, rfl, rfl, HO1, HO2, HAP, HBW⟩
    case round =>
      clear HO1 HO2 HAP HBW
      obtain ⟨j, a5, a6, c5, c6, hj, rfl, rfl, rfl, ho5, ho6, hap, hbw⟩ := hrel
      by_cases hlt : j < N + 1
      · have HX := Lib.hid (And.intro ho5 (And.intro ho6 (And.intro hap hbw)))
        have hz := hbw.size
        clear ho5 ho6 hap hbw
        have hV := BV.out j
        go_wp2_with fail
        refine (r8At_any _ _ _ _ z _ _ _ hm (by omega) (hB.kept HX.out.2.2.2)).mono ?_
        rintro e w' ⟨rfl, rfl⟩
        rw [HW.out j]
        go_wp2_with (at_builtin; refine app2 rfl (.tmp 39) (.tmp 43) rfl w.heap.size _ _ _ _ _ _ _ rfl rfl HX.out.1 HX.out.2.1 HX.out.2.2.1 (by omega) hz ?_; intro a5' c5' w1 ho5' ho6' hap' hb1)
        have HX1 := Lib.hid (And.intro ho5' (And.intro ho6' (And.intro hap' (HX.out.2.2.2.trans hb1))))
        have hz1 := HX1.out.2.2.2.size
        clear ho5' ho6' hap' hb1
        refine (r8At_any _ _ _ _ z _ _ _ hm (by omega) (hB.kept HX1.out.2.2.2)).mono ?_
        rintro e w' ⟨rfl, rfl⟩
        have e8 := at8_bd z n (10 + (j : Int)) 256 (by omega)
        have HVj := Lib.hid (HV.out j)
        generalize at8 z n (10 + (j : Int)) 256 = q at *
        go_wp2_with (at_builtin; refine app2 rfl (.tmp 45) (.tmp 51) rfl w.heap.size _ _ _ _ _ _ _ rfl rfl HX1.out.2.1 HX1.out.1 HX1.out.2.2.1.symm (by omega) hz1 ?_; intro a6' c6' w2 ho6' ho5' hap' hb2)
        go_roundw
        case rel => exact ⟨j + 1, a5', a6', c5', c6', by omega, by go_num, rfl, rfl, by rw [wts_succ]; exact ho5', by rw [lds_succ, ← HVj.out]; exact ho6', hap'.symm, HX1.out.2.2.2.trans hb2⟩
        case measure => simp [intOf]; omega
      · obtain rfl : j = N + 1 := by omega
        have HX := Lib.hid (And.intro ho5 (And.intro ho6 hbw))
        have hz := hbw.size
        clear ho5 ho6 hap hbw HW HV
        go_wp2_with fail
        refine (r8Wide_any _ _ _ _ z' _ _ _ hm' (by omega) (by omega) (by omega) (hB'.kept HX.out.2.2)).mono ?_
        rintro e w' ⟨rfl, rfl⟩
        rw [C2.out]
        have hsv := vShare_ok W BW.out (N + 1) (by omega) (1000 * L) (by omega) (by omega)
        have HSV := Lib.hid hsv
        clear hsv
        go_wp2_with fail
        refine (Sh.impl_any _ _ _ _ (wts W (N + 1)) (1000 * L) _ (by omega) (Nat.le_refl _) (Rd.of_own HX.out.1)).mono ?_
        rintro e w3 ⟨a7, n7, c7, rfl, ho7, hb3⟩
        rw [HSV.out] at ho7 ⊢
        have hn7 : n7 = N + 1 + 1 := by have := own_len ho7; rw [parts_len] at this; exact this.symm
        subst hn7
        have HX3 := Lib.hid (And.intro (own_below HX.out.1 hb3 (Nat.le_refl _)) (And.intro (own_below HX.out.2.1 hb3 (Nat.le_refl _)) (And.intro ho7 (HX.out.2.2.trans (hb3.mono HX.out.2.2.size)))))
        clear HX ho7 hb3 hz
        have dne : ((N : Int) + 1 + 1 != (N : Int) + 1 + 1) = false := by simp
        go_wp2_with fail
        clear dne
        have HP := Lib.hid (wts_pre W BW.out (N + 1))
        have HQ : Hid (∀ k, k < N + 2 → upto (1000 * L) (wts W (N + 1)) k ≤ upto (1000 * L) (wts W (N + 1)) (k + 1) ∧ ((wts W (N + 1)).getD k 0 = 0 → upto (1000 * L) (wts W (N + 1)) (k + 1) = upto (1000 * L) (wts W (N + 1)) k)) := fun k hk =>
          upto_mono (1000 * L) (wts W (N + 1)) (wts_bd W BW.out (N + 1)) (by omega) HP.out k (by rw [wts_len]; omega)
        have HR : Hid (∀ k, k ≤ N + 2 → 0 ≤ upto (1000 * L) (wts W (N + 1)) k ∧ upto (1000 * L) (wts W (N + 1)) k ≤ 60000000) := fun k hk => by
          have := upto_bd (1000 * L) (wts W (N + 1)) (wts_bd W BW.out (N + 1)) (by omega) (by omega) (by rw [wts_len]; omega) HP.out k (by rw [wts_len]; omega)
          omega
        have r5 := Rd.of_own HX3.out.1
        have r7 := Rd.of_own HX3.out.2.2.1
        go_loop [12, 13] (fun s i => ∃ k : Nat, k ≤ N + 2 ∧ i = .int .i64 (k : Int) ∧ s = .int .i64 (upto (1000 * L) (wts W (N + 1)) k)) (fun _ i => N + 2 - (intOf i).toNat)
        case atStart => exact ⟨0, Nat.zero_le _, rfl, by rw [upto_zero]⟩
        case round =>
          obtain ⟨k, hk, rfl, rfl⟩ := hrel
          by_cases hlt : k < N + 2
          · obtain ⟨b7, o7, p, rfl, _, hc7, hp⟩ := r7.atH (k := k) (by omega)
            obtain ⟨b5, o5, q, rfl, _, hc5, hq⟩ := r5.atH (k := k) (by omega)
            have hp' := hp.out
            rw [parts_get _ _ _ _ (by omega)] at hp'
            obtain ⟨s1, s2⟩ := HQ.out k hlt
            obtain ⟨s3, s4⟩ := HR.out k hk
            obtain ⟨s5, s6⟩ := HR.out (k + 1) (by omega)
            rw [hq.out] at s2
            have HU : Hid (upto (1000 * L) (wts W (N + 1)) (k + 1) = upto (1000 * L) (wts W (N + 1)) k + p) := by show _ = _; omega
            have p0 : 0 ≤ p := by omega
            have p1 : p ≤ 60000000 := by omega
            have f1 : decide (p < 0) = false := by simp; omega
            have s2' : q = 0 → p = 0 := fun e => by have := s2 e; omega
            have S2 := Lib.hid s2'
            generalize upto (1000 * L) (wts W (N + 1)) k = u at *
            clear s1 s2 s5 s6 hp' hp hq s2'
            by_cases hq0 : q = 0
            · have hp0 := S2.out hq0
              subst hq0
              subst hp0
              go_wp2
              go_round
              case rel => exact ⟨k + 1, by omega, by go_num, by rw [HU.out]; simp⟩
              case measure => simp [intOf]; omega
            · have f2 : (q == 0) = false := by simp [hq0]
              go_wp2
              go_round
              case rel => exact ⟨k + 1, by omega, by go_num, by rw [HU.out]⟩
              case measure => simp [intOf]; omega
          · obtain rfl : k = N + 2 := by omega
            have HUF : Hid (upto (1000 * L) (wts W (N + 1)) (N + 2) = 1000 * L) := by
              show _ = _
              have := upto_full (1000 * L) (wts W (N + 1)) HP.out
              rw [wts_len] at this; exact this
            rw [HUF.out]
            clear HQ HR HP HSV HUF hk hlt
            go_wp2_with fail
            refine (r8At_any _ _ _ _ z' _ _ _ hm' (by omega) (hB'.kept HX3.out.2.2.2)).mono ?_
            rintro e w' ⟨rfl, rfl⟩
            rw [C3.out]
            obtain ⟨b, hb, mo, hvb, hmo, hmax⟩ := vBusy_ok V BV.out (N + 1) (H + 1) (by omega) (by omega) (by omega)
            rw [show (((H + 1 : Nat)) : Int) = 1 + (H : Int) from by omega] at hvb
            have HVB := Lib.hid hvb
            have HMO := Lib.hid hmo
            have HMAX := Lib.hid hmax
            clear hvb hmo hmax
            obtain ⟨_, c6', e6, nc6, mc6⟩ := own_form HX3.out.2.1
            have ec6 : c6 = c6' := by injection e6
            subst ec6
            clear e6
            have hz3 := HX3.out.2.2.2.size
            go_wp2_with fail
            refine (Bu.impl_any _ _ _ _ (lds V (N + 1)) (1 + (H : Int)) _ nc6 mc6 (Nat.le_refl _) (Rd.of_own HX3.out.2.1)).mono ?_
            rintro e w4 ⟨rfl, hb4⟩
            rw [HVB.out]
            have HX4 := Lib.hid (And.intro (own_below HX3.out.2.1 hb4 (Nat.le_refl _)) (HX3.out.2.2.2.trans (hb4.mono hz3)))
            clear HX3 hb4 hz3 r5 r7 C1 C2 C3
            have f1 : ((1000 * L) != (1000 * L)) = false := by simp
            have f2 : decide ((b : Int) < 0) = false := by simp
            have f3 : decide ((1 : Int) + (N : Int) < (b : Int) + (1 + (H : Int))) = false := by simp; omega
            go_wp2_with fail
            clear f1 f2 f3
            have r6 := Rd.of_own HX4.out.1
            have HLB : Hid (∀ i, i < (lds V (N + 1)).length → 0 ≤ (lds V (N + 1)).getD i 0 ∧ (lds V (N + 1)).getD i 0 ≤ 200000000) := lds_bd V BV.out (N + 1)
            go_loop [18, 19, 20] (fun k s i => ∃ j : Nat, j ≤ N + 1 - H ∧ k = .int .i64 (j : Int)) (fun k _ _ => N + 1 - H - (intOf k).toNat)
            case atStart => exact ⟨0, Nat.zero_le _, rfl⟩
            case round =>
              obtain ⟨j, hj, rfl⟩ := hrel
              by_cases hlt : j < N + 1 - H
              · have HM : Hid (wsum (lds V (N + 1)) j (H + 1) ≤ mo) := HMAX.out j (by omega)
                have HE : Hid (j = b → wsum (lds V (N + 1)) j (H + 1) = mo) := fun e => by rw [e]; exact HMO.out.symm
                go_wp2
                go_loop [19, 20] (fun q i => ∃ t : Nat, t ≤ H + 1 ∧ q = .int .i64 (wsum (lds V (N + 1)) j t) ∧ i = .int .i64 ((j : Int) + t)) (fun _ i => j + H + 1 - (intOf i).toNat)
                case atStart => exact ⟨0, Nat.zero_le _, rfl, by simp⟩
                case round =>
                  obtain ⟨t, ht, rfl, rfl⟩ := hrel
                  obtain ⟨g1, g2⟩ := wsum_bd (lds V (N + 1)) j t HLB.out (by rw [lds_len]; omega)
                  have HS : Hid (wsum (lds V (N + 1)) j (t + 1) = wsum (lds V (N + 1)) j t + (lds V (N + 1)).getD (j + t) 0) := rfl
                  by_cases hlt3 : t < H + 1
                  · obtain ⟨b6, o6, x, rfl, _, hc, hx⟩ := r6.atH (k := j + t) (by omega)
                    have hx2 := HLB.out (j + t) (by rw [lds_len]; omega)
                    rw [hx.out] at hx2
                    generalize wsum (lds V (N + 1)) j t = q at *
                    go_wp2
                    go_round
                    case rel => exact ⟨t + 1, by omega, by rw [HS.out, hx.out], by go_num⟩
                    case measure => simp [intOf]; omega
                  · obtain rfl : t = H + 1 := by omega
                    have HM' := HM.out
                    generalize wsum (lds V (N + 1)) j (H + 1) = q at *
                    have f1 : decide (mo < q) = false := by simp; omega
                    by_cases hjb : j = b
                    · have hq := HE.out hjb
                      subst hjb
                      subst hq
                      have f4 : (q != q) = false := by simp
                      have f5 : ((j : Int) == (j : Int)) = true := by simp
                      go_wp2
                      go_round
                      case rel => exact ⟨j + 1, by omega, by go_num⟩
                      case measure => simp [intOf]; omega
                    · have f5 : ((j : Int) == (b : Int)) = false := by simp; omega
                      go_wp2
                      go_round
                      case rel => exact ⟨j + 1, by omega, by go_num⟩
                      case measure => simp [intOf]; omega
              · obtain rfl : j = N + 1 - H := by omega
                have HPV := Lib.hid (vPlan_ok V BV.out (N + 1) (by omega))
                have hz4 := HX4.out.2.size
                go_wp2_with fail
                refine (Pl.impl_any _ _ _ _ (lds V (N + 1)) 20000 10000 _ (by omega) (Nat.le_refl _) r6).mono ?_
                rintro e w5 ⟨a8, n8, c8, rfl, ho8, hb5⟩
                rw [HPV.out] at ho8 ⊢
                have hn8 : n8 = N + 1 := by have := own_len ho8; rw [plan_len] at this; exact this.symm
                subst hn8
                have HX5 := Lib.hid (And.intro (own_below HX4.out.1 hb5 (Nat.le_refl _)) (And.intro ho8 (HX4.out.2.trans (hb5.mono hz4))))
                clear HX4 ho8 hb5 hz4 r6 HMO HMAX HVB
                have dne : ((N : Int) + 1 != (N : Int) + 1) = false := by simp
                go_wp2_with fail
                clear dne
                go_loopw [23, 24, 25] (fun i x y wr => ∃ j : Nat, j ≤ N + 1 ∧ i = .int .i64 (j : Int) ∧ ∃ m, wr = w5.drewN m) (fun i _ _ _ => N + 1 - (intOf i).toNat)
                case atStart => exact ⟨0, Nat.zero_le _, rfl, 0, rfl⟩
                case round =>
                  obtain ⟨j, hj, rfl, m, rfl⟩ := hrel
                  by_cases hlt : j < N + 1
                  · obtain ⟨b6, o6, x, rfl, _, hc6, hx⟩ := (Rd.of_own HX5.out.1).atH (k := j) (by omega)
                    obtain ⟨b8, o8, y, rfl, _, hc8, hy⟩ := (Rd.of_own HX5.out.2.1).atH (k := j) (by omega)
                    have hx' := hx.out
                    rw [lds_get V _ _ hlt] at hx'
                    have hy' := hy.out
                    rw [plan_get _ _ _ _ hlt, hx.out] at hy'
                    have hv := BV.out j
                    rw [hx'] at hv
                    have HF : Hid (vFor x 20000 = (y, 0)) := by
                      show _ = _
                      unfold vFor
                      rw [if_pos ⟨inB_mk hv.1 (by omega), inB_mk (by omega) (by omega)⟩, if_pos (ch_ok x hv.1 hv.2), hy']
                    have f1 : (y != y) = false := by simp
                    clear hx' hy'
                    go_wp2_with fail
                    refine (ChannelsFor_impl x 20000 _).mono ?_
                    rintro e w' ⟨rfl, nq, rfl⟩
                    rw [HF.out]
                    go_wp2_with fail
                    go_roundw
                    case rel => exact ⟨j + 1, by omega, by go_num, _, rfl⟩
                    case measure => simp [intOf]; omega
                  · obtain rfl : j = N + 1 := by omega
                    go_wp2
                    go_ret
                    exact ⟨rfl, below_drewN HX5.out.2.2 _⟩

end Go.Proofs.Ytkogkkbiocejkaa.Tr
