/- Words of this session for calls through function values and for memory that a call leaves alone. -/
import Derived.Test.YtbkplokoomodcaaWWords
import Derived.Test.YtbkplokoomodcaaWLast
import Derived.Test.YtbkplokoomodcaaWMore
namespace Go.Proofs.Ytbkplokoomodcaa.Hw
open Go.RowKit Go.Proofs.YtbkplokoomodcaaW.PrintWords Go.Proofs.YtbkplokoomodcaaW.PrintLast Go.Proofs.YtbkplokoomodcaaW.PrintMore

/-- A call of a function value that lies in a slot, as an arm of the walk. -/
theorem goesV {P : Program} {ops : Array Oper} {Q : Exit → Act → World → Prop} {rest : List Oper} {oi : Oper} {a : Act} {w : World} (N : Option Tmp) (hd : oi.dst = N) (hg : oi.guard = none) {f : FuncId} {fn : Func} {x : Operand} {as : Array Operand} {ts : Array TypeId} {cap : Array Value}
    (hf : P.funcs[f]? = some fn) (hname : (fn.name == "runtime.NumGoroutine") = false) (hb : fn.body.isSome = true) (args : Array Value)
    (hop : oi.op = .call { callee := .value x, args := as, argTypes := ts }) (hx : a.eval x = .func (.func f) #[] cap) (hargs : as.map a.eval = args)
    (h : Calls P f (args ++ cap) w fun e w' => ∃ v, e = .returned v ∧ wpList P ops Q rest (a.put N v) w') : wpList P ops Q (oi :: rest) a w := by
  refine wpList_plain hg fun K hK => ?_
  have he := enters_ hf hname hb (args ++ cap) w
  have hrun : (execOp a.eval oi).run P w = .ok (.enter f (args ++ cap)) w := by
    unfold execOp
    simp [hop, resolve, Deferred.ofValue, invoke, hx, hargs, he]
  unfold Oper.wp
  rw [hrun, Oper.upon_enter]
  refine h.mono fun e w'' hh => ?_
  obtain ⟨v, rfl, hk⟩ := hh
  subst hd
  exact hK _ _ hk
/-- The operation is a call of what lies in this slot (a cheap look ahead). -/
theorem gateV {P : Program} {ops : Array Oper} {rest : List Oper} {o : Oper} {a : Act} {Q : Exit → Act → World → Prop} {W : World} {t : Tmp} {as : Array Operand} {ts : Array TypeId} (_ho : o.op = .call { callee := .value (.tmp t), args := as, argTypes := ts }) (h : wpList P ops Q (o :: rest) a W) : wpList P ops Q (o :: rest) a W := h

/-- Where a list first has what is sought, from place i on; -1 for nowhere. -/
def idxFrom {α : Type} (p : α → Bool) : List α → Int → Int
  | [], _ => -1
  | x :: xs, i => if p x = true then i else idxFrom p xs (i + 1)
theorem idxFrom_lo {α : Type} (p : α → Bool) (xs : List α) (i : Int) (h : 0 ≤ i) : -1 ≤ idxFrom p xs i := by
  induction xs generalizing i with
  | nil => simp [idxFrom]
  | cons x xs ih => unfold idxFrom; split; omega; exact ih _ (by omega)
theorem idxFrom_any {α : Type} (p : α → Bool) (xs : List α) (i : Int) (h : 0 ≤ i) : decide (0 ≤ idxFrom p xs i) = xs.any p := by
  induction xs generalizing i with
  | nil => simp [idxFrom]
  | cons x xs ih =>
    unfold idxFrom
    cases hp : p x
    · simp only [Bool.false_eq_true, if_false, List.any_cons, hp, Bool.false_or]; exact ih _ (by omega)
    · simp [hp, h]
theorem idx_yes {α : Type} (p : α → Bool) (xs : List α) (k : Nat) (hk : k < xs.length) (z : α) (hp : p (xs.getD k z) = true) : idxFrom p (xs.drop k) k = k := by
  rw [List.getD_eq_getElem?_getD, List.getElem?_eq_getElem hk] at hp
  rw [List.drop_eq_getElem_cons hk]
  exact if_pos hp
theorem idx_no {α : Type} (p : α → Bool) (xs : List α) (k : Nat) (hk : k < xs.length) (z : α) (hp : p (xs.getD k z) = false) : idxFrom p (xs.drop k) k = idxFrom p (xs.drop (k + 1)) ((k + 1 : Nat) : Int) := by
  rw [List.getD_eq_getElem?_getD, List.getElem?_eq_getElem hk] at hp
  rw [List.drop_eq_getElem_cons hk]
  exact if_neg (by rw [show p xs[k] = false from hp]; decide)
theorem idxFrom_end {α : Type} (p : α → Bool) (xs : List α) (k : Nat) (hk : xs.length ≤ k) : idxFrom p (xs.drop k) k = -1 := by
  rw [List.drop_of_length_le hk]
  rfl
theorem all_not_any {α : Type} (p : α → Bool) (l : List α) : (!l.any fun x => !p x) = l.all p := by
  induction l with
  | nil => rfl
  | cons x xs ih => simp only [List.any_cons, List.all_cons, Bool.not_or, Bool.not_not, ← ih]
end Go.Proofs.Ytbkplokoomodcaa.Hw
