/- Words of this session for calls through function values and for memory that a call leaves alone. -/
import Derived.Test.YtibapicnljedcabWWords
import Derived.Test.YtibapicnljedcabWLast
import Derived.Test.YtibapicnljedcabWMore
namespace Go.Proofs.Ytibapicnljedcab.Hw
open Go.RowKit Go.Proofs.YtibapicnljedcabW.PrintWords Go.Proofs.YtibapicnljedcabW.PrintLast Go.Proofs.YtibapicnljedcabW.PrintMore

/-- A call of a function value that lies in a slot, as an arm of the walk. -/
theorem goesV {P : Program} {ops : Array Oper} {Q : Exit → Act → World → Prop} {rest : List Oper} {oi : Oper} {a : Act} {w : World} (N : Option Tmp) (hd : oi.dst = N) (hg : oi.guard = none) {f : FuncId} {fn : Func} {x : Operand} {as : Array Operand} {ts : Array TypeId} {cap : Array Value}
    (hf : P.funcs[f]? = some fn) (hname : (fn.name == "runtime.NumGoroutine") = false) (hb : fn.body.isSome = true) (args : Array Value)
    (hop : oi.op = .call { callee := .value x, args := as, argTypes := ts }) (hx : a.eval x = .func (.func f) #[] cap) (hargs : as.map a.eval = args)
    (h : Calls P f (args ++ cap) w fun e w' => ∃ v, e = .returned v ∧ wpList P ops Q rest (a.put N v) w') : wpList P ops Q (oi :: rest) a w := by
  refine wpList_plain hg fun K hK => ?_
  have he := enters_ hf hname hb (args ++ cap) w
  have hrun : (execOp a.eval oi).run P w = .ok (.enter f (args ++ cap)) w := by
    unfold execOp
    simp [hop, resolve, Deferred.ofValue, invoke, hx, hargs, he]
  unfold Oper.wp
  rw [hrun, Oper.upon_enter]
  refine h.mono fun e w'' hh => ?_
  obtain ⟨v, rfl, hk⟩ := hh
  subst hd
  exact hK _ _ hk
/-- The operation is a call of what lies in this slot (a cheap look ahead). -/
theorem gateV {P : Program} {ops : Array Oper} {rest : List Oper} {o : Oper} {a : Act} {Q : Exit → Act → World → Prop} {W : World} {t : Tmp} {as : Array Operand} {ts : Array TypeId} (_ho : o.op = .call { callee := .value (.tmp t), args := as, argTypes := ts }) (h : wpList P ops Q (o :: rest) a W) : wpList P ops Q (o :: rest) a W := h

/-- Where a list first has what is sought, from place i on; -1 for nowhere. -/
def idxFrom {α : Type} (p : α → Bool) : List α → Int → Int
  | [], _ => -1
  | x :: xs, i => if p x = true then i else idxFrom p xs (i + 1)
theorem idxFrom_any {α : Type} (p : α → Bool) (xs : List α) (i : Int) (h : 0 ≤ i) : decide (0 ≤ idxFrom p xs i) = xs.any p := by
  induction xs generalizing i with
  | nil => simp [idxFrom]
  | cons x xs ih =>
    unfold idxFrom
    cases hp : p x
    · simp only [Bool.false_eq_true, if_false, List.any_cons, hp, Bool.false_or]; exact ih _ (by omega)
    · simp [hp, h]
theorem idx_yes {α : Type} (p : α → Bool) (xs : List α) (k : Nat) (hk : k < xs.length) (z : α) (hp : p (xs.getD k z) = true) : idxFrom p (xs.drop k) k = k := by
  rw [List.getD_eq_getElem?_getD, List.getElem?_eq_getElem hk] at hp
  rw [List.drop_eq_getElem_cons hk]
  exact if_pos hp
theorem idx_no {α : Type} (p : α → Bool) (xs : List α) (k : Nat) (hk : k < xs.length) (z : α) (hp : p (xs.getD k z) = false) : idxFrom p (xs.drop k) k = idxFrom p (xs.drop (k + 1)) ((k + 1 : Nat) : Int) := by
  rw [List.getD_eq_getElem?_getD, List.getElem?_eq_getElem hk] at hp
  rw [List.drop_eq_getElem_cons hk]
  exact if_neg (by rw [show p xs[k] = false from hp]; decide)
theorem idxFrom_end {α : Type} (p : α → Bool) (xs : List α) (k : Nat) (hk : xs.length ≤ k) : idxFrom p (xs.drop k) k = -1 := by
  rw [List.drop_of_length_le hk]
  rfl
theorem all_not_any {α : Type} (p : α → Bool) (l : List α) : (!l.any fun x => !p x) = l.all p := by
  induction l with
  | nil => rfl
  | cons x xs ih => simp only [List.any_cons, List.all_cons, Bool.not_or, Bool.not_not, ← ih]
theorem C_take {α : Type} {d : Kd α} {w : World} {A : Option Addr} {xs : List α} (h : d.C w A xs.length xs) (n : Nat) (hn : n ≤ xs.length) : d.C w A n (xs.take n) := by
  refine ⟨by rw [List.length_take]; omega, by have := h.2.1; omega, fun hp => ?_⟩
  obtain ⟨ad, e, hc⟩ := h.2.2 (by omega)
  refine ⟨ad, e, fun j p hj => hc j p ?_⟩
  rw [List.getElem?_take] at hj
  split at hj
  · exact hj
  · cases hj
theorem set_next {α : Type} (xs : List α) (n : Nat) (z v : α) : (xs ++ List.replicate (n + 1) z).set xs.length v = (xs ++ [v]) ++ List.replicate n z := by
  rw [List.set_append_right _ _ (Nat.le_refl _), Nat.sub_self, List.replicate_succ, List.set_cons_zero]
  simp
theorem R_empty {α : Type} (d : Kd α) (e : Nat) (W : World) (base : Nat) (ok : Nat → Prop) (hb : base ≤ W.heap.size) (hok : ok W.heap.size) : d.R e (W.alloc (.cells #[] e)) base ok (.slice (some ⟨W.heap.size, 0, none⟩) 0 0) [] := by
  refine ⟨fun k hk => ?_, [], ?_, ⟨by simp, fun j p h => by simp at h⟩⟩
  · have h_ : W.heap.size = k := by simpa [Value.ownBlock] using hk
    subst h_
    exact hok
  · have h2 := World.ownsRow_lit (base := base) (e := e) (size := d.sz) W #[] 0 hb (by simp [maxLen]) (by simp)
    simpa using h2
theorem add_off (g n : Nat) : (⟨g, 0, none⟩ : Addr).add n = ⟨g, n, none⟩ := by unfold Addr.add; split <;> simp_all
theorem wrap_w {i : Int} (h0 : -9223372036854775808 ≤ i) (h1 : i ≤ 9223372036854775807) : IntKind.i64.wrap i = i := by rw [IntKind.wrap_i64]; omega
theorem wrap_id {i : Int} (h0 : -9223372036854775808 ≤ i) (h1 : i ≤ 9223372036854775807) : wrap64 i = i := by
  unfold wrap64
  omega
theorem bind_of {α β : Type} {x : Option α} {a : α} {f : α → Option β} {r : Option β} (h : x = some a) (h2 : f a = r) : x.bind f = r := by
  rw [h]
  exact h2
end Go.Proofs.Ytibapicnljedcab.Hw
