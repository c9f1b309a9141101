/- Words of this session for calls through function values and for memory that a call leaves alone. -/
import Derived.Test.YtmakhnpjfdgocaaDoorWWords
import Derived.Test.YtmakhnpjfdgocaaDoorWLast
import Derived.Test.YtmakhnpjfdgocaaDoorWMore
namespace Go.Proofs.YtmakhnpjfdgocaaDoor.Hw
open Go.RowKit Go.Proofs.YtmakhnpjfdgocaaDoorW.PrintWords Go.Proofs.YtmakhnpjfdgocaaDoorW.PrintLast Go.Proofs.YtmakhnpjfdgocaaDoorW.PrintMore

/-- A call of a function value that lies in a slot, as an arm of the walk. -/
theorem goesV {P : Program} {ops : Array Oper} {Q : Exit → Act → World → Prop} {rest : List Oper} {oi : Oper} {a : Act} {w : World} (N : Option Tmp) (hd : oi.dst = N) (hg : oi.guard = none) {f : FuncId} {fn : Func} {x : Operand} {as : Array Operand} {ts : Array TypeId} {cap : Array Value}
    (hf : P.funcs[f]? = some fn) (hname : (fn.name == "runtime.NumGoroutine") = false) (hb : fn.body.isSome = true) (args : Array Value)
    (hop : oi.op = .call { callee := .value x, args := as, argTypes := ts }) (hx : a.eval x = .func (.func f) #[] cap) (hargs : as.map a.eval = args)
    (h : Calls P f (args ++ cap) w fun e w' => ∃ v, e = .returned v ∧ wpList P ops Q rest (a.put N v) w') : wpList P ops Q (oi :: rest) a w := by
  refine wpList_plain hg fun K hK => ?_
  have he := enters_ hf hname hb (args ++ cap) w
  have hrun : (execOp a.eval oi).run P w = .ok (.enter f (args ++ cap)) w := by
    unfold execOp
    simp [hop, resolve, Deferred.ofValue, invoke, hx, hargs, he]
  unfold Oper.wp
  rw [hrun, Oper.upon_enter]
  refine h.mono fun e w'' hh => ?_
  obtain ⟨v, rfl, hk⟩ := hh
  subst hd
  exact hK _ _ hk
/-- A call of a method value (what it was bound to comes first). -/
theorem goesM {P : Program} {ops : Array Oper} {Q : Exit → Act → World → Prop} {rest : List Oper} {oi : Oper} {a : Act} {w : World} (N : Option Tmp) (hd : oi.dst = N) (hg : oi.guard = none) {f : FuncId} {fn : Func} {x : Operand} {as : Array Operand} {ts : Array TypeId} {first : Array Value}
    (hf : P.funcs[f]? = some fn) (hname : (fn.name == "runtime.NumGoroutine") = false) (hb : fn.body.isSome = true) (args : Array Value)
    (hop : oi.op = .call { callee := .value x, args := as, argTypes := ts }) (hx : a.eval x = .func (.func f) first #[]) (hargs : as.map a.eval = args)
    (h : Calls P f (first ++ args) w fun e w' => ∃ v, e = .returned v ∧ wpList P ops Q rest (a.put N v) w') : wpList P ops Q (oi :: rest) a w := by
  refine wpList_plain hg fun K hK => ?_
  have he := enters_ hf hname hb (first ++ args) w
  have hrun : (execOp a.eval oi).run P w = .ok (.enter f (first ++ args)) w := by
    unfold execOp
    simp [hop, resolve, Deferred.ofValue, invoke, hx, hargs, he]
  unfold Oper.wp
  rw [hrun, Oper.upon_enter]
  refine h.mono fun e w'' hh => ?_
  obtain ⟨v, rfl, hk⟩ := hh
  subst hd
  exact hK _ _ hk
/-- The operation is a call of what lies in this slot (a cheap look ahead). -/
theorem gateV {P : Program} {ops : Array Oper} {rest : List Oper} {o : Oper} {a : Act} {Q : Exit → Act → World → Prop} {W : World} {t : Tmp} {as : Array Operand} {ts : Array TypeId} (_ho : o.op = .call { callee := .value (.tmp t), args := as, argTypes := ts }) (h : wpList P ops Q (o :: rest) a W) : wpList P ops Q (o :: rest) a W := h

/-- Where a list first has what is sought, from place i on; -1 for nowhere. -/
def idxFrom {α : Type} (p : α → Bool) : List α → Int → Int
  | [], _ => -1
  | x :: xs, i => if p x = true then i else idxFrom p xs (i + 1)
theorem idxFrom_lo {α : Type} (p : α → Bool) (xs : List α) (i : Int) (h : 0 ≤ i) : -1 ≤ idxFrom p xs i := by
  induction xs generalizing i with
  | nil => simp [idxFrom]
  | cons x xs ih => unfold idxFrom; split; omega; exact ih _ (by omega)
theorem idxFrom_any {α : Type} (p : α → Bool) (xs : List α) (i : Int) (h : 0 ≤ i) : decide (0 ≤ idxFrom p xs i) = xs.any p := by
  induction xs generalizing i with
  | nil => simp [idxFrom]
  | cons x xs ih =>
    unfold idxFrom
    cases hp : p x
    · simp only [Bool.false_eq_true, if_false, List.any_cons, hp, Bool.false_or]; exact ih _ (by omega)
    · simp [hp, h]
theorem idx_yes {α : Type} (p : α → Bool) (xs : List α) (k : Nat) (hk : k < xs.length) (z : α) (hp : p (xs.getD k z) = true) : idxFrom p (xs.drop k) k = k := by
  rw [List.getD_eq_getElem?_getD, List.getElem?_eq_getElem hk] at hp
  rw [List.drop_eq_getElem_cons hk]
  exact if_pos hp
theorem idx_no {α : Type} (p : α → Bool) (xs : List α) (k : Nat) (hk : k < xs.length) (z : α) (hp : p (xs.getD k z) = false) : idxFrom p (xs.drop k) k = idxFrom p (xs.drop (k + 1)) ((k + 1 : Nat) : Int) := by
  rw [List.getD_eq_getElem?_getD, List.getElem?_eq_getElem hk] at hp
  rw [List.drop_eq_getElem_cons hk]
  exact if_neg (by rw [show p xs[k] = false from hp]; decide)
theorem idxFrom_end {α : Type} (p : α → Bool) (xs : List α) (k : Nat) (hk : xs.length ≤ k) : idxFrom p (xs.drop k) k = -1 := by
  rw [List.drop_of_length_le hk]
  rfl
theorem all_not_any {α : Type} (p : α → Bool) (l : List α) : (!l.any fun x => !p x) = l.all p := by
  induction l with
  | nil => rfl
  | cons x xs ih => simp only [List.any_cons, List.all_cons, Bool.not_or, Bool.not_not, ← ih]
/-- What a law's 'toXs' hands back: a cut of a row that is known whole, fillers and all; nil where it was asked for so. -/
def FullPost {α : Type} (d : Kd α) (e : Nat) (n0 : Nat) (w : World) (r : List α) (en : Ending) (w' : World) : Prop :=
  ∃ (A : Option Addr) (n c : Nat), en = .returned (.slice A n c) ∧ d.R e w' w.heap.size (fun _ => True) (.slice A r.length c) r ∧ (n = n0 ∨ r = [] ∧ n = 0) ∧ Below w.heap.size w w'
theorem FullPost.intro {α : Type} {d : Kd α} {e : Nat} {n0 : Nat} {w : World} {r : List α} {en : Ending} {w' : World} (A : Option Addr) (n c : Nat) (h1 : en = .returned (.slice A n c)) (h2 : d.R e w' w.heap.size (fun _ => True) (.slice A r.length c) r) (h3 : n = n0 ∨ r = [] ∧ n = 0) (h4 : Below w.heap.size w w') : FullPost d e n0 w r en w' := ⟨A, n, c, h1, h2, h3, h4⟩
def FullPostW {α : Type} (wrap : Value → Value) (d : Kd α) (e : Nat) (n0 : Nat) (w : World) (r : List α) (en : Ending) (w' : World) : Prop :=
  ∃ (A : Option Addr) (n c : Nat), en = .returned (wrap (.slice A n c)) ∧ d.R e w' w.heap.size (fun _ => True) (.slice A r.length c) r ∧ (n = n0 ∨ r = [] ∧ n = 0) ∧ Below w.heap.size w w'
theorem FullPostW.intro {α : Type} {wrap : Value → Value} {d : Kd α} {e : Nat} {n0 : Nat} {w : World} {r : List α} {en : Ending} {w' : World} (A : Option Addr) (n c : Nat) (h1 : en = .returned (wrap (.slice A n c))) (h2 : d.R e w' w.heap.size (fun _ => True) (.slice A r.length c) r) (h3 : n = n0 ∨ r = [] ∧ n = 0) (h4 : Below w.heap.size w w') : FullPostW wrap d e n0 w r en w' := ⟨A, n, c, h1, h2, h3, h4⟩
theorem C_take {α : Type} {d : Kd α} {w : World} {A : Option Addr} {xs : List α} (h : d.C w A xs.length xs) (n : Nat) (hn : n ≤ xs.length) : d.C w A n (xs.take n) := by
  refine ⟨by rw [List.length_take]; omega, by have := h.2.1; omega, fun hp => ?_⟩
  obtain ⟨ad, e, hc⟩ := h.2.2 (by omega)
  refine ⟨ad, e, fun j p hj => hc j p ?_⟩
  rw [List.getElem?_take] at hj
  split at hj
  · exact hj
  · cases hj
theorem reps_take {α : Type} {R : α → List Value → Prop} {size : Nat} {ps : List α} {cs : List Value} (h : Reps R size ps cs) (n : Nat) (hn : n ≤ ps.length) : Reps R size (ps.take n) (cs.take (n * size)) := by
  refine ⟨?_, fun m p hm => ?_⟩
  · rw [List.length_take, List.length_take, h.1, Nat.min_eq_left hn]
    exact Nat.min_eq_left (Nat.mul_le_mul_right _ hn)
  · rw [List.getElem?_take] at hm
    split at hm
    · rename_i hlt
      have h2 : m * size + size ≤ n * size := by rw [← Nat.succ_mul]; exact Nat.mul_le_mul_right _ hlt
      rw [List.drop_take, List.take_take, Nat.min_eq_left (by omega)]
      exact h.2 m p hm
    · cases hm
theorem R_take {α : Type} {d : Kd α} {e : Nat} {w : World} {base : Nat} {ok : Nat → Prop} {A : Option Addr} {c : Nat} {xs : List α} (h : d.R e w base ok (.slice A xs.length c) xs) (n : Nat) (hn : n ≤ xs.length) : d.R e w base ok (.slice A n c) (xs.take n) := by
  have hob : (Value.slice A n c).ownBlock = (Value.slice A xs.length c).ownBlock := by cases A <;> rfl
  obtain ⟨h0, inner, ho, hr⟩ := h
  refine ⟨fun k hk => h0 k (hob ▸ hk), inner.take (n * d.sz), ?_, ?_⟩
  · obtain ⟨hl, hc⟩ := ho
    rw [List.length_take, Nat.min_eq_left hn]
    refine ⟨by rw [List.length_take, hl]; exact Nat.min_eq_left (Nat.mul_le_mul_right _ hn), ?_⟩
    rcases hc with ⟨hv, h00⟩ | ⟨g, cap, cur, hv, hb, hg, h1, h2, h3, h4⟩
    · injection hv with e1 e2 e3
      subst e1 e3
      exact .inl ⟨by rw [show n = 0 by omega], by omega⟩
    · injection hv with e1 e2 e3
      subst e1 e3
      exact .inr ⟨g, c, cur, rfl, hb, hg, by omega, h2, h3, by rw [← h4, List.take_take, Nat.min_eq_left (Nat.mul_le_mul_right _ hn)]⟩
  · rw [hob]
    exact reps_take hr n hn
theorem set_next {α : Type} (xs : List α) (n : Nat) (z v : α) : (xs ++ List.replicate (n + 1) z).set xs.length v = (xs ++ [v]) ++ List.replicate n z := by
  rw [List.set_append_right _ _ (Nat.le_refl _), Nat.sub_self, List.replicate_succ, List.set_cons_zero]
  simp
theorem R_empty {α : Type} (d : Kd α) (e : Nat) (W : World) (base : Nat) (ok : Nat → Prop) (hb : base ≤ W.heap.size) (hok : ok W.heap.size) : d.R e (W.alloc (.cells #[] e)) base ok (.slice (some ⟨W.heap.size, 0, none⟩) 0 0) [] := by
  refine ⟨fun k hk => ?_, [], ?_, ⟨by simp, fun j p h => by simp at h⟩⟩
  · have h_ : W.heap.size = k := by simpa [Value.ownBlock] using hk
    subst h_
    exact hok
  · have h2 := World.ownsRow_lit (base := base) (e := e) (size := d.sz) W #[] 0 hb (by simp [maxLen]) (by simp)
    simpa using h2
theorem add_off (g n : Nat) : (⟨g, 0, none⟩ : Addr).add n = ⟨g, n, none⟩ := by unfold Addr.add; split <;> simp_all
theorem wrap_w {i : Int} (h0 : -9223372036854775808 ≤ i) (h1 : i ≤ 9223372036854775807) : IntKind.i64.wrap i = i := by rw [IntKind.wrap_i64]; omega
theorem wrap_id {i : Int} (h0 : -9223372036854775808 ≤ i) (h1 : i ≤ 9223372036854775807) : wrap64 i = i := by
  unfold wrap64
  omega
theorem bind_of {α β : Type} {x : Option α} {a : α} {f : α → Option β} {r : Option β} (h : x = some a) (h2 : f a = r) : x.bind f = r := by
  rw [h]
  exact h2
theorem ite_of {α : Type} {c : Prop} [Decidable c] {a b r : α} (h : c) (h2 : a = r) : (if c then a else b) = r := (if_pos h).trans h2
theorem ite_no {α : Type} {c : Prop} [Decidable c] {a b r : α} (h : ¬ c) (h2 : b = r) : (if c then a else b) = r := (if_neg h).trans h2
/-- How much spare room a law's 'toXs' gives. -/
def room (n : Nat) : Nat := if n % 6 = 5 then 0 else if n % 3 = 0 then 1 else n
theorem room_le (n : Nat) : room n ≤ n + 1 := by unfold room; repeat (first | split | omega)
theorem room_pos (n : Nat) (h : n = 0) : room n = 1 := by subst h; rfl
/-- 'x[:j]', j at most the capacity. -/
theorem cut_cap {P : Program} (t e : TypeId) (kh : IntKind) {i : TypeInfo} (ht : P.underlying t = some (.slice e)) (hi : P.info? e = some i) (A : Option Addr) (n c m : Nat) (hc : m ≤ c) :
    ∀ W : World, (Instr.slice t (.slice A n c) none (some (.int kh (m : Int))) none).run P W = .ok (.slice A m c) W := by
  intro W
  have hel : P.elem t = e := by simp [Program.elem, ht]
  have hu : P.underlying t = some (.slice (P.elem t)) := by rw [hel]; exact ht
  have ha : (A.map fun x => x.add 0) = A := by cases A <;> simp [Addr.add]
  rw [run_slice_h W t A n c hu kh m (by omega) (by omega), hel]
  simp [sizeOf, typeInfo, hi, sliced, Result.andThen, ha]
end Go.Proofs.YtmakhnpjfdgocaaDoor.Hw
