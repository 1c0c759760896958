/-
  The moves of a walk on the abstract state.
-/
import Derived.Test.YtglfcaioapdiaaaAwRun
import Derived.Test.YtglfcaioapdiaaaAwOps5
import Derived.Test.YtglfcaioapdiaaaAwOps9
import Derived.Test.YtglfcaioapdiaaaAwFz
namespace Go.Proofs.Ytglfcaioapdiaaa.Aw
open Go Go.RowKit

section
variable {P : Program} {N g n : Nat} {G : Tp → Hp → Nat → Prop} {Q : Exit → Tp → Hp → Nat → Prop} {T : Tp} {H : Hp}
theorem thn_n (h : G T H n) : Thn G Q .normal T H n := h
theorem thn_e {i : Nat} (h : Q (.exit i) T H n) : Thn G Q (.exit i) T H n := h
theorem thn_r (h : Q .ret T H n) : Thn G Q .ret T H n := h
theorem inb_same {i : Nat} (h : Q .normal T H n) : InB i Q (.exit i) T H n := by simp only [InB, if_true]; exact h
theorem inb_ne {i j : Nat} (hij : Nat.beq j i = false) (h : Q (.exit j) T H n) : InB i Q (.exit j) T H n := by
  have : j ≠ i := fun e => by subst e; rw [Nat.beq_refl] at hij; cases hij
  simp only [InB, this, if_false]; exact h
theorem inb_n {i : Nat} (h : Q .normal T H n) : InB i Q .normal T H n := h
theorem inb_r {i : Nat} (h : Q .ret T H n) : InB i Q .ret T H n := h

theorem aw_cond_t {c : Operand} {x y : Code} {t : Bool} (hc : evalA T c = some (.v (.bool t))) (ht : t = true) (h : AW P N g x Q T H n) : AW P N g (.cond c x y) Q T H n :=
  aw_cond hc (fun _ => h) (fun e => by rw [ht] at e; cases e)
theorem aw_cond_f {c : Operand} {x y : Code} {t : Bool} (hc : evalA T c = some (.v (.bool t))) (ht : t = false) (h : AW P N g y Q T H n) : AW P N g (.cond c x y) Q T H n :=
  aw_cond hc (fun e => by rw [ht] at e; cases e) (fun _ => h)
theorem aw_ite {c : Operand} {x y : Code} {t : Bool} (hc : evalA T c = some (.v (.bool t))) (h1 : t = true → AW P N g x Q T H n) (h2 : t = false → AW P N g y Q T H n) : AW P N g (.cond c x y) Q T H n := aw_cond hc h1 h2

theorem aw_seqk {x y : Code} (h : ∀ K : Tp → Hp → Nat → Prop, (∀ T H n, AW P N g y Q T H n → K T H n) → AW P N g x (Thn K Q) T H n) : AW P N g (.seq x y) Q T H n :=
  aw_seq (h _ fun _ _ _ h => h)

theorem s_pick_t {o : Oper} {c x y : Operand} {t : Bool} {av : AV} (ho : o.op = .pick c x y) (hc : evalA T c = some (.v (.bool t))) (ht : t = true) (hx : evalA T x = some av) : Step P o N T H n av H n true :=
  s_pick ho hc (by rw [ht]; exact hx)
theorem s_pick_f {o : Oper} {c x y : Operand} {t : Bool} {av : AV} (ho : o.op = .pick c x y) (hc : evalA T c = some (.v (.bool t))) (ht : t = false) (hx : evalA T y = some av) : Step P o N T H n av H n true :=
  s_pick ho hc (by rw [ht]; exact hx)

variable {all : Array Oper} {l : List Oper} {dst : Option Tmp} {op : Op} {ty : TypeId} {pos : String} {after : Array Edge}
theorem sq_g {j t : Nat} {b b' : Bool} (hj : ((all[j]?).bind (·.dst)) = some t) (htn : Nat.blt t N = true) (hl : look T t = some (.v (.bool b'))) (hb : b' = b)
    (h : SQ P N all (⟨dst, op, ty, pos, after, none⟩ :: l) G T H n) : SQ P N all (⟨dst, op, ty, pos, after, some (j, b)⟩ :: l) G T H n := by
  intro Old wi K m a w Q hr ht hq
  have h' := h Old wi K m a w Q hr ht hq
  unfold wpList at h' ⊢
  rw [if_pos (by simp [Region.wanted])] at h'
  subst hb
  rw [if_pos (by simp [Region.wanted, yielded_of ht hj hl htn])]
  exact h'
theorem sq_s {j t : Nat} {b b' : Bool} (hj : ((all[j]?).bind (·.dst)) = some t) (htn : Nat.blt t N = true) (hl : look T t = some (.v (.bool b'))) (hb : b' = !b) (hd : dOk N dst = true)
    (h : SQ P N all l G (put T dst (.v undef)) H n) : SQ P N all (⟨dst, op, ty, pos, after, some (j, b)⟩ :: l) G T H n :=
  sq_skip rfl hj htn hl (by subst hb; cases b <;> rfl) hd h
theorem sq_gs {j t : Nat} {b b' : Bool} (hj : ((all[j]?).bind (·.dst)) = some t) (htn : Nat.blt t N = true) (hl : look T t = some (.v (.bool b'))) (hd : dOk N dst = true)
    (h1 : b' = b → SQ P N all (⟨dst, op, ty, pos, after, none⟩ :: l) G T H n)
    (h2 : b' = (!b) → SQ P N all l G (put T dst (.v undef)) H n) : SQ P N all (⟨dst, op, ty, pos, after, some (j, b)⟩ :: l) G T H n := by
  by_cases hb : b' = b
  · exact sq_g hj htn hl hb (h1 hb)
  · have hb' : b' = !b := by cases b <;> cases b' <;> simp_all
    exact sq_s hj htn hl hb' hd (h2 hb')

theorem goFn_of {f : FuncId} {fn : Func} {c : Code} (hf : P.funcs[f]? = some fn) (hb : fn.body = some c) (hn : (fn.name == "runtime.NumGoroutine") = false) : goFn P f = true := by
  simp only [goFn, hf, hb, hn]; rfl

theorem RO.ofv' {f : FuncId} {fn : Func} {c : Code} {args : List AV} {x : Value} {rs : List ResultVar} (hf : P.funcs[f]? = some fn) (hN : fn.ntmps = N) (hb : fn.body = some c) (hg : goFn P f = true) (hl : Nat.ble args.length N = true) (hrs : fn.results.toList = rs)
    (h : AW P N 0 c (Fin P rs (.v x) [] 0) (idx 0 args) [] 0) : RO P f args n (.v x) [] n := by
  subst hN hrs
  exact RO.ofv n hf hb hg (by simpa using hl) h

theorem fin_v {rs : List ResultVar} {x : Value} (h : ResV P T H rs (.v x)) : FinOk P rs (.v x) [] 0 T H :=
  ⟨⟨.v x, id, h, rfl, trivial, rfl⟩, rfl, rfl, rfl⟩
theorem fin_r {rs : List ResultVar} {v : AV} {U : Hp} {k : Nat} (h : FinOk P rs v U k T H) : Fin P rs v U k .ret T H n := h
theorem fin_n {rs : List ResultVar} {v : AV} {U : Hp} {k : Nat} (h : FinOk P rs v U k T H) : Fin P rs v U k .normal T H n := h
theorem fin_b {t : Nat} {x y : Bool} (h : look T t = some (.v (.bool y))) (e : y = x) : FinOk P [.tmp t] (.v (.bool x)) [] 0 T H := fin_v (.r1 _ _ (.tmp _ _ (by rw [h, e])))
theorem fin_i {t : Nat} {k : IntKind} {x y : Int} (h : look T t = some (.v (.int k y))) (e : y = x) : FinOk P [.tmp t] (.v (.int k x)) [] 0 T H := fin_v (.r1 _ _ (.tmp _ _ (by rw [h, e])))
theorem fin_s {t : Nat} {x y : ByteArray} (h : look T t = some (.v (.string y))) (e : y = x) : FinOk P [.tmp t] (.v (.string x)) [] 0 T H := fin_v (.r1 _ _ (.tmp _ _ (by rw [h, e])))
end
end Go.Proofs.Ytglfcaioapdiaaa.Aw
