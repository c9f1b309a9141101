/- Plain Lean functions with the answers of Go functions, and proofs of it: printed by a program of this session (pr.py) over the kit's print, with hand-written parts. -/
import Derived.Test.YtbkplokoomodcaaD2x0
import Derived.Test.YtbkplokoomodcaaD2x1
import Derived.Test.YtbkplokoomodcaaD2x2
import Derived.Test.YtbkplokoomodcaaD2x3
import Derived.Test.YtbkplokoomodcaaD2x4
namespace Go.Proofs.Ytbkplokoomodcaa.D2
open Go.RowKit Go.Proofs.YtbkplokoomodcaaW.PrintWords Go.Proofs.YtbkplokoomodcaaW.PrintLast Go.Proofs.YtbkplokoomodcaaW.PrintMore
attribute [local go_sem] max2_int min2_int max_two min_two max_three min_three max_four min_four   -- for this text's walks alone
set_option linter.unusedVariables false
set_option linter.unusedSimpArgs false

-- FOR impl.IsPuzzle
-- KIND rounds=0 making=1
def isClueB (fl : Int) (x : S25) : Bool := (impl_IsClue.f fl x.f0 x.f1 x.f2).getD false
theorem isClue_some (fl a b c : Int) : impl_IsClue.f fl a b c = some ((impl_IsClue.f fl a b c).getD false) := by
  have h : ∃ r, impl_IsClue.f fl a b c = some r := by
    unfold impl_IsClue.f impl_isHiddenHouse.f impl_isEggs.f impl_isBreak.f impl_within.f
    repeat (first | exact ⟨_, rfl⟩ | split | simp only [Option.bind_some])
  obtain ⟨r, h⟩ := h
  rw [h]; rfl
set_option maxHeartbeats 4000000 in
set_option maxRecDepth 100000 in
theorem isPuzzle1.calls (fl : Int) (g : Nat) (x : S25) (W : World) (h0 : W.cell? ⟨g, 0, none⟩ = some (.int .i64 fl)) :
    Calls Try.prog 82 #[.agg #[.int .i64 x.f0, .int .i64 x.f1, .int .i64 x.f2], .pointer (some ⟨g, 0, none⟩)] W fun e W' => e = .returned (.bool (!isClueB fl x)) ∧ Below W.heap.size W W' := by
  have HC := Aside0.mk (isClue_some fl x.f0 x.f1 x.f2)
  have h1 := World.block_lt_of_cell? W _ h0
  go_enter Try.func82, Try.ntmps82
  go_wp2_with (first | (go_at_call 21; refine (impl_IsClue.calls _ _ _ _ _ _ HC.out).mono ?_; rintro e w1 ⟨rfl, hb1⟩))
  go_ret
  exact ⟨rfl, ((Below.refl _ _).alloc (Nat.le_refl _) _).trans (hb1.mono (by simp))⟩
def impl_IsPuzzle.f (a0_0 : Int) (l0_1 : List S25) : Option Bool := some (decide (1 ≤ a0_0) && decide (a0_0 ≤ 40) && decide (l0_1.length ≤ 6) && l0_1.all (isClueB a0_0))
theorem hidden_some (a : Int) : impl_isHiddenHouse.f a = some (decide (1 ≤ a) && decide (a ≤ 40)) := by
  unfold impl_isHiddenHouse.f impl_within.f
  by_cases h : 1 ≤ a <;> simp [h]
set_option maxHeartbeats 4000000 in
set_option maxRecDepth 100000 in
theorem impl_IsPuzzle.calls (a0_0 : Int) (A0_1 : Option Addr) (c0_1 : Nat) (l0_1 : List S25) (r : Bool) (w : World) (hr0_1 : Kd.C k25 w A0_1 l0_1.length l0_1) (hc0_1 : l0_1.length ≤ c0_1) (h : impl_IsPuzzle.f a0_0 l0_1 = some r) :
    Calls Try.prog 25 #[.agg #[.int .i64 a0_0, .slice A0_1 l0_1.length c0_1]] w fun e w' => e = .returned (.bool r) ∧ Below w.heap.size w w' := by
  obtain rfl := Option.some.inj h
  clear h
  have HH := Aside0.mk (hidden_some a0_0)
  have HR := Aside0.mk (Kd.C_below hr0_1 ((Below.refl w.heap.size w).alloc (Nat.le_refl _) (.cells #[.int .i64 a0_0, .slice A0_1 l0_1.length c0_1] 35 (0, 0))))
  have hm := Kd.C_max hr0_1
  clear hr0_1
  cases h1 : (decide (1 ≤ a0_0) && decide (a0_0 ≤ 40)) with
  | false =>
    rw [h1] at HH
    clear h1
    go_enter Try.func25, Try.ntmps25
    go_wp2_with (first | (go_at_call 74; refine (impl_isHiddenHouse.calls _ _ _ HH.out).mono ?_; rintro e w1 ⟨rfl, ⟨nd, rfl⟩⟩))
    go_ret
    exact ⟨by simp, pw_below_drewN ((Below.refl _ _).alloc (Nat.le_refl _) _) _⟩
  | true =>
    rw [h1] at HH
    clear h1
    by_cases h2 : l0_1.length ≤ 6
    · have h2' : decide ((l0_1.length : Int) ≤ 6) = true := decide_eq_true (by omega)
      have h3' : decide (l0_1.length ≤ 6) = true := decide_eq_true h2
      have HX : Aside0 (∀ nd, Calls Try.prog 81 #[.slice A0_1 l0_1.length c0_1, .func (.func 82) #[] #[.pointer (some ⟨w.heap.size, 0, none⟩)]] ((w.alloc (.cells #[.int .i64 a0_0, .slice A0_1 l0_1.length c0_1] 35 (0, 0))).drewN nd) fun e w' => e = .returned (.bool (l0_1.any fun x => !isClueB a0_0 x)) ∧ Below (w.heap.size + 1) ((w.alloc (.cells #[.int .i64 a0_0, .slice A0_1 l0_1.length c0_1] 35 (0, 0))).drewN nd) w') := by
        refine ⟨fun nd => (anyClue.calls (fun x => !isClueB a0_0 x) 82 _ #[.pointer (some ⟨w.heap.size, 0, none⟩)] A0_1 c0_1 l0_1 _ (Kd.C_below HR.out (pw_below_drewN (Below.refl _ _) _)) Try.func82 (by kernel_rfl) rfl ?_).mono fun e w' hh => ⟨hh.1, hh.2.mono (by simp)⟩⟩
        intro x W _ hb
        exact isPuzzle1.calls a0_0 w.heap.size x W ((hb.cell (p := ⟨w.heap.size, 0, none⟩) (by simp)).trans (by rw [show ∀ (V : World) (p : Addr), (V.drewN nd).cell? p = V.cell? p from fun _ _ => rfl, World.cell?_alloc_at _ _ _ _ rfl]; rfl))
      go_enter Try.func25, Try.ntmps25
      go_wp2_with (first | (go_at_call 74; refine (impl_isHiddenHouse.calls _ _ _ HH.out).mono ?_; rintro e w1 ⟨rfl, ⟨nd, rfl⟩⟩) | (go_at_call 81; refine (HX.out _).mono ?_; rintro e w1 ⟨rfl, hb1⟩))
      go_ret
      exact ⟨by simp [h3', Hw.all_not_any], (pw_below_drewN ((Below.refl _ _).alloc (Nat.le_refl _) _) _).trans (hb1.mono (by simp))⟩
    · have h2' : decide ((l0_1.length : Int) ≤ 6) = false := decide_eq_false (by omega)
      have h3' : decide (l0_1.length ≤ 6) = false := decide_eq_false h2
      go_enter Try.func25, Try.ntmps25
      go_wp2_with (first | (go_at_call 74; refine (impl_isHiddenHouse.calls _ _ _ HH.out).mono ?_; rintro e w1 ⟨rfl, ⟨nd, rfl⟩⟩))
      go_ret
      exact ⟨by simp [h3'], pw_below_drewN ((Below.refl _ _).alloc (Nat.le_refl _) _) _⟩


-- FOR slices.Clone[[]impl.Clue,impl.Clue]
-- USES info impl.Clue
-- USES kd impl.Clue
-- KIND rounds=0 making=1
set_option maxHeartbeats 8000000 in
set_option maxRecDepth 1000000 in
theorem cloneClue.calls (w : World) (A : Option Addr) (c : Nat) (l : List S25) (hr : Kd.C k25 w A l.length l) (hc : l.length ≤ c) (hl : l.length < 5864062014805) :
    Calls Try.prog 88 #[.slice A l.length c] w fun e w' => ∃ v0_ : Value, e = .returned v0_ ∧ Kd.R k25 25 w' w.heap.size (fun _ => True) v0_ l ∧ Below w.heap.size w w' := by
  have HR := Aside0.mk hr
  have HC := Aside0.mk hc
  have HL := Aside0.mk hl
  cases A with
  | none =>
    have hl0 : l = [] := by
      rcases Nat.eq_zero_or_pos l.length with h0 | h0
      · exact List.eq_nil_of_length_eq_zero h0
      · obtain ⟨ad, h, _⟩ := hr.2.2 h0
        cases h
    subst hl0
    have hnil := run_eql_slice_nil (P := Try.prog) w 33 25 none 0 c Try.underlying33
    clear hr hc hl
    go_enter Try.func88, Try.ntmps88
    go_wp2
    go_ret
    exact ⟨_, rfl, Kd.R_nil _ _ _ _ _, Below.refl _ _⟩
  | some ad =>
    have hnil := run_eql_slice_nil (P := Try.prog) w 33 25 (some ad) l.length c Try.underlying33
    clear hr hc hl
    go_enter Try.func88, Try.ntmps88
    have HB := Aside0.mk (Below.refl w.heap.size w)
    go_wp2_with (first | ((with_reducible refine gate_builtin (b := .append) (xs := #[.tmp 5, .tmp 6]) rfl ?_); at_builtin; refine Kd.R_append_rows k25 (w0 := w) w.heap.size rfl (.tmp 5) (.tmp 6) 33 25 (.agg #[(.int .i64 0), (.int .i64 0), (.int .i64 0)]) 24 rfl Try.underlying33 info25 rfl (by decide) (by omega) (.slice (some ⟨w.heap.size, 0, none⟩) 0 0) [] l (some ad) l.length c (fun _ => True) (fun _ => False) rfl rfl (Hw.R_empty k25 25 w w.heap.size (fun _ => True) (Nat.le_refl _) trivial) (Kd.C_alloc HR.out _) (fun _ _ h => h) (fun _ h => h.elim) (fun _ _ => trivial) (below_alloc HB.out _) (by simp) (by have := HL.out; simp; omega) ?_; intro v1 w1 ho hb hg hat; clear hg hat))
    go_ret
    exact ⟨_, rfl, by simpa using ho, hb⟩
def impl_Clue_88.f (l0 : List S25) : Option (List S25) := if l0.length < 5864062014805 then some l0 else none
theorem impl_Clue_88.calls (A0 : Option Addr) (c0 : Nat) (l0 : List S25) (r : List S25) (w : World) (hr0 : Kd.C k25 w A0 l0.length l0) (hc0 : l0.length ≤ c0) (h : impl_Clue_88.f l0 = some r) :
    Calls Try.prog 88 #[.slice A0 l0.length c0] w fun e w' => ∃ v0_ : Value, e = .returned (v0_) ∧ Kd.R k25 25 w' w.heap.size (fun _ => True) v0_ r ∧ Below w.heap.size w w' := by
  unfold impl_Clue_88.f at h
  split at h
  · rename_i hl
    obtain rfl := Option.some.inj h
    exact cloneClue.calls w A0 c0 l0 hr0 hc0 hl
  · cases h


-- FOR slices.Delete[[]impl.Clue,impl.Clue]
-- USES info impl.Clue
set_option maxHeartbeats 8000000 in
set_option maxRecDepth 1000000 in
theorem delClue.calls (w : World) (g i j n c : Nat) (cur : Array Value) (hb : w.heap[g]? = some (.cells cur 25 (0, 0))) (hs : cur.size = c * 3) (hnc : n ≤ c) (hcm : c ≤ maxLen) (hij : i < j) (hj : j ≤ n) (h1 : ∀ u ∈ cur.toList.take (n * 3), u.oneCell' = true) :
    Calls Try.prog 117 #[.slice (some ⟨g, 0, none⟩) n c, .int .i64 i, .int .i64 j] w fun e w' => e = .returned (.slice (some ⟨g, 0, none⟩) (n - (j - i)) c) ∧ (∃ cur', w'.heap[g]? = some (.cells cur' 25 (0, 0)) ∧ cur'.size = cur.size ∧ cur'.toList.take ((n - (j - i)) * 3) = cur.toList.take (i * 3) ++ (cur.toList.take (n * 3)).drop (j * 3)) ∧ Below g w w' := by
  have hm : c ≤ 9223372036854775807 := Nat.le_trans hcm (by decide)
  obtain ⟨news, hnews⟩ : ∃ news, news = (cur.toList.take (n * 3)).drop (j * 3) := ⟨_, rfl⟩
  have hlen : news.length = (n - j) * 3 := by rw [hnews]; simp; omega
  have hget : ∀ t, t < (n - j) * 3 → news[t]? = cur[j * 3 + t]? := by
    intro t ht
    rw [hnews, List.getElem?_drop, List.getElem?_take, if_pos (by omega), Array.getElem?_toList]
  obtain ⟨A, hA, hsrc⟩ : ∃ A : Addr, (if c = j then some (⟨g, 0, none⟩ : Addr) else some ⟨g, j * 3, none⟩) = some A ∧ Hid (∀ t u, news[t]? = some u → w.drew.cell? (A.add t) = some u) := by
    by_cases h : c = j
    · refine ⟨⟨g, 0, none⟩, by simp [h], fun t u hu => ?_⟩
      have h0 : news.length = 0 := by rw [hlen]; omega
      rw [List.length_eq_zero_iff.1 h0] at hu
      simp at hu
    · refine ⟨⟨g, j * 3, none⟩, by simp [h], fun t u hu => ?_⟩
      have ht : t < (n - j) * 3 := by
        have := (List.getElem?_eq_some_iff.1 hu).1
        rwa [hlen] at this
      rw [hget t ht] at hu
      rw [Addr.add_lit]
      exact (blk_cell (blk_drew hb) _).trans hu
  have s1 : Hid (news.length = (n - j) * 3) := hlen
  have s2 : Hid (∀ u ∈ news, u.oneCell' = true) := by
    intro u hu
    rw [hnews] at hu
    exact h1 u (List.mem_of_mem_drop hu)
  have s3 : Hid (∀ t, t < news.length → (w.drew.cell? ⟨g, 0 + i * 3 + t, none⟩).isSome = true ∧ w.drew.frozen? ⟨g, 0 + i * 3 + t, none⟩ = false) := by
    intro t ht
    rw [hlen] at ht
    refine ⟨?_, blk_frozen (blk_drew hb) _⟩
    rw [blk_cell (blk_drew hb), Array.getElem?_eq_getElem (by omega)]
    rfl
  obtain ⟨W1, hW1⟩ : ∃ W1, W1 = w.drew.setCells g (0 + i * 3) news := ⟨_, rfl⟩
  obtain ⟨cur1, hb1, hc1⟩ := Hw.setCells_blk (t := 25) news (0 + i * 3) w.drew cur (blk_drew hb) (by rw [hlen]; omega)
  rw [← hW1] at hb1
  have hz1 : cur1.size = cur.size := by rw [← Array.length_toList, hc1]; simp [hlen]; omega
  obtain ⟨zs, hzs⟩ : ∃ zs, zs = (Builtin.zeroCells (Value.agg #[.int .i64 0, .int .i64 0, .int .i64 0]).cells (n - (i + (n - j)))).toList := ⟨_, rfl⟩
  have hlz : zs.length = (n - (i + (n - j))) * 3 := by rw [hzs, Hw.zeroCells_len]; rfl
  have hcl : ∀ ty, (Builtin.clear_ #[33] ty #[.slice (some ⟨g, (i + (n - j)) * 3, none⟩) (n - (i + (n - j))) (c - (i + (n - j)))]).run Try.prog W1 = .ok (.tuple #[]) (W1.setCells g ((i + (n - j)) * 3) zs) :=
    fun ty => hzs ▸ Hw.run_clear_cells W1 _ _ ty _ Try.underlying33 Try.zeroValue25 3 rfl (by decide) (by decide) g ((i + (n - j)) * 3) _ _ (by omega)
      (fun x hx => by rw [blk_cell hb1, Array.getElem?_eq_getElem (by omega)]; rfl) (fun x hx => blk_frozen hb1 _)
  have hW : Hid (W1 = w.drew.setCells g (0 + i * 3) news) := hW1
  have hic : i ≤ c := by omega
  have hjc : j ≤ c := by omega
  obtain ⟨i0_, hi0, _, hsz, _⟩ := info_parts info25
  have HH : Aside0 (∃ cur2, (W1.setCells g ((i + (n - j)) * 3) zs).heap[g]? = some (.cells cur2 25 (0, 0)) ∧ cur2.size = cur.size ∧ cur2.toList.take ((n - (j - i)) * 3) = cur.toList.take (i * 3) ++ (cur.toList.take (n * 3)).drop (j * 3)) := ⟨by
    obtain ⟨cur2, hb2, hc2⟩ := Hw.setCells_blk (t := 25) zs ((i + (n - j)) * 3) W1 cur1 hb1 (by rw [hlz]; omega)
    refine ⟨cur2, hb2, ?_, ?_⟩
    · rw [← Array.length_toList, hc2]
      simp only [List.length_append, List.length_take, List.length_drop, hlz, Array.length_toList]
      omega
    · rw [hc2, List.append_assoc, List.take_append_of_le_length (by rw [List.length_take, Array.length_toList]; omega), List.take_take, Nat.min_eq_left (by omega), hc1, List.take_append_of_le_length (by simp [hlen]; omega), List.take_of_length_le (by simp [hlen]; omega), hnews, Nat.zero_add]⟩
  have HBl : Aside0 (Below g w (W1.setCells g ((i + (n - j)) * 3) zs)) := ⟨by rw [hW1]; exact below_setCells (Nat.le_refl _) _ _ _ (below_setCells (Nat.le_refl _) _ _ _ (below_drew1 (Below.refl _ _)))⟩
  clear hzs hlz hW1 hb1 hb hget hnews hlen hc1 hz1 h1
  have hmixed : Try.prog.follows Departure.mixedOrders = true := by first | rfl | kernel_rfl
  go_enter Try.func117, Try.ntmps117
  go_wp2_with fail
  go_region_law_o (refine step_append_room rfl (.tmp 22) (.tmp 25) 33 rfl 25 i0_ 3 Try.underlying33 hi0 hsz g 0 i c (by simp [Act.eval, Act.put]) A (n - j) (c - j) news (by simp [Act.eval, Act.put]) s1.out hsrc.out s2.out (by omega) s3.out ?_; rw [← hW.out])
  go_wp2_with fail
  go_ret
  exact ⟨by rw [show n - (j - i) = i + (n - j) by omega]; rfl, HH.out, HBl.out⟩


-- FOR impl.withoutClue
-- KIND rounds=0 making=1
-- CALLS slices.Clone[[]impl.Clue,impl.Clue] ; slices.Delete[[]impl.Clue,impl.Clue]
def impl_withoutClue.f (l0 : List S25) (a1 : Int) : Option (List S25) := if 0 ≤ a1 ∧ a1 < (l0.length : Int) ∧ l0.length < 5864062014805 then some (l0.take a1.toNat ++ l0.drop (a1.toNat + 1)) else none
theorem withoutRow (w2 w3 : World) (base g cap i : Nat) (cur cur3 : Array Value) (inner : List Value) (l0 r : List S25) (hE : l0.take i ++ l0.drop (i + 1) = r) (h1 : i < l0.length) (hg0 : base ≤ g) (q : l0.length ≤ cap ∧ cap ≤ maxLen ∧ cur.size = cap * k25.sz)
    (h_ : List.take (l0.length * k25.sz) cur.toList = inner ∧ inner.length = l0.length * k25.sz ∧ Reps (k25.M w2 base fun k => True ∧ some k ≠ (Value.slice (some ⟨g, 0, none⟩) l0.length cap).ownBlock) k25.sz l0 inner)
    (hg3 : w3.heap[g]? = some (.cells cur3 25 (0, 0))) (hs3 : cur3.size = cur.size) (ht3 : cur3.toList.take ((l0.length - (i + 1 - i)) * 3) = cur.toList.take (i * 3) ++ (cur.toList.take (l0.length * 3)).drop ((i + 1) * 3)) :
    Kd.R k25 25 w3 base (fun _ => True) (.slice (some ⟨g, 0, none⟩) (l0.length - (i + 1 - i)) cap) r := by
  rw [show k25.sz = 3 from rfl] at h_ q
  have hrl : r.length = l0.length - (i + 1 - i) := by rw [← hE, List.length_append, List.length_take, List.length_drop]; omega
  refine ⟨fun _ _ => trivial, cur3.toList.take ((l0.length - (i + 1 - i)) * 3), ⟨?_, .inr ⟨g, cap, cur3, by rw [hrl], hg0, hg3, by omega, q.2.1, by rw [hs3]; exact q.2.2, by rw [hrl]; rfl⟩⟩, ?_⟩
  · have hl3 : cur3.toList.length = cap * 3 := by rw [Array.length_toList, hs3, q.2.2]
    rw [hrl, List.length_take, hl3]
    show _ = _ * 3
    omega
  · rw [ht3, ← hE, h_.1]
    have hr1 := Kd.reps_take (m := i) h_.2.2 (by omega)
    rw [← h_.1, List.take_take, Nat.min_eq_left (by omega)] at hr1
    exact Kd.reps_append hr1 (Kd.reps_drop (m := i + 1) h_.2.2)
set_option maxHeartbeats 8000000 in
set_option maxRecDepth 1000000 in
theorem impl_withoutClue.calls (A0 : Option Addr) (c0 : Nat) (l0 : List S25) (a1 : Int) (r : List S25) (w : World) (hr0 : Kd.C k25 w A0 l0.length l0) (hc0 : l0.length ≤ c0) (h : impl_withoutClue.f l0 a1 = some r) :
    Calls Try.prog 94 #[.slice A0 l0.length c0, .int .i64 a1] w fun e w' => ∃ v0_ : Value, e = .returned (v0_) ∧ Kd.R k25 25 w' w.heap.size (fun _ => True) v0_ r ∧ Below w.heap.size w w' := by
  unfold impl_withoutClue.f at h
  split at h
  case isFalse => cases h
  case isTrue hl =>
  obtain ⟨h0, h1, h2⟩ := hl
  have HE : Aside0 (l0.take a1.toNat ++ l0.drop (a1.toNat + 1) = r) := ⟨Option.some.inj h⟩
  clear h
  obtain ⟨i, rfl⟩ : ∃ i : Nat, a1 = i := ⟨a1.toNat, by omega⟩
  rw [Int.toNat_natCast] at HE
  have w1 : IntKind.i64.wrap ((i : Int) + 1) = ((i + 1 : Nat) : Int) := by rw [Hw.wrap_w (by omega) (by omega)]; omega
  have HR := Aside0.mk hr0
  have HC := Aside0.mk hc0
  have H1 : Aside0 (i < l0.length) := ⟨by omega⟩
  have H2 := Aside0.mk h2
  clear hr0 hc0 h0 h1 h2
  go_enter Try.func94, Try.ntmps94
  go_wp2_with (first | (go_at_call 88; refine (cloneClue.calls w A0 c0 l0 HR.out HC.out H2.out).mono ?_; rintro e w2 ⟨v2, rfl, ho, hb⟩; obtain ⟨_, inner, hown, hreps⟩ := ho; obtain ⟨hil, hcase⟩ := hown; obtain ⟨g, cap, cur, rfl, hg0, hg, q1, q2, q3, q4⟩ := hcase.resolve_left (fun h_ => by have := H1.out; omega); have HG := Aside0.mk hg; have HG0 := Aside0.mk hg0; have HQ := Aside0.mk (And.intro q1 (And.intro q2 q3)); have HI := Aside0.mk (And.intro q4 (And.intro hil hreps)); have HB2 := Aside0.mk hb; clear hil hcase hreps hg0 hg q1 q2 q3 q4 hb) | (go_at_call 117; have hcall := delClue.calls w2 g i (i + 1) l0.length cap cur HG.out HQ.out.2.2 HQ.out.1 HQ.out.2.1 (Nat.lt_succ_self i) H1.out (by have h_ := HI.out; rw [show k25.sz = 3 from rfl] at h_; rw [h_.1]; exact Kd.reps_one h_.2.2 (by decide) (fun p c hp => k25.K_one (w := w2) (k25.K_of_M hp))); rw [show ((i + 1 : Nat) : Int) = (i : Int) + 1 from rfl] at hcall; refine hcall.mono ?_; clear hcall; rintro e w3 ⟨rfl, ⟨cur3, hg3, hs3, ht3⟩, hb3⟩; have HB3 : Aside0 (Below w.heap.size w w3) := ⟨HB2.out.trans (hb3.mono HG0.out)⟩; have HO3 := Aside0.mk (withoutRow w2 w3 w.heap.size g cap i cur cur3 inner l0 r HE.out H1.out HG0.out HQ.out HI.out hg3 hs3 ht3); clear hg3 hs3 ht3 hb3))
  go_ret
  exact ⟨_, rfl, by have h_ := HO3.out; rw [show l0.length - (i + 1 - i) = l0.length - 1 by omega] at h_; exact h_, HB3.out⟩


/-! ### impl_DropClue: function 35 -/
def impl_DropClue.f (a0_0 : Int) (l0_1 : List (S25)) (a1 : Int) : Option (Int × (List (S25)) × Bool) := (impl_IsPuzzle.f a0_0 l0_1).bind fun t201 => (if t201 = true then ((impl_within.f a1 0 (wrap64 ((l0_1.length : Int) - 1))).bind fun t202 => (if t202 = true then ((impl_withoutClue.f l0_1 a1).bind fun t203 => (some (a0_0, t203, true))) else (some (0, ([] : List (S25)), false)))) else (some (0, ([] : List (S25)), false)))
def impl_DropClue.T3 : Bool × List (List Nat × List Nat) := (true, [([], []), ([0], [0]), ([], []), ([2], [2]), ([], []), ([3, 4], [3, 4]), ([1, 5], [1, 5]), ([6, 5, 0, 1, 2, 3, 4, 5, 6], [6]), ([7, 0, 1, 2, 3, 4, 5, 6, 7], [])])
def impl_DropClue.B3 : List Nat := [0, 1, 0, 4, 0, 28, 63, 127, 255]
theorem impl_DropClue.tab3 : rtab .any (opsOf Try.f35 3) = impl_DropClue.T3 := by kernel_rfl
theorem impl_DropClue.bits3 : waitsOk impl_DropClue.T3.2 impl_DropClue.B3 = true := by kernel_rfl
set_option maxHeartbeats 8000000 in
set_option maxRecDepth 100000 in
theorem impl_DropClue.calls (a0_0 : Int) (A0_1 : Option Addr) (c0_1 : Nat) (l0_1 : List (S25)) (a1 : Int) (r1 : Int) (r2 : List (S25)) (r3 : Bool) (w : World) (hr0_1 : Kd.C k25 w A0_1 l0_1.length l0_1) (hc0_1 : l0_1.length ≤ c0_1) (h : impl_DropClue.f a0_0 l0_1 a1 = some (r1, r2, r3)) :
    Calls Try.prog 35 #[.agg #[.int .i64 a0_0, .slice A0_1 l0_1.length c0_1], .int .i64 a1] w fun e w' => ∃ v1_ : Value, e = .returned (.tuple #[.agg #[.int .i64 r1, v1_], .bool r3]) ∧ Kd.R k25 25 w' w.heap.size (fun _ => True) v1_ r2 ∧ Below w.heap.size w w' := by
  have hu35 := Try.underlying35
  have HR0_1 := Aside0.mk hr0_1
  have HC0_1 := Aside0.mk hc0_1
  clear hr0_1 hc0_1
  have HB := Aside0.mk (Below.refl w.heap.size w)
  have H : ((impl_IsPuzzle.f a0_0 l0_1).bind fun t201 => (if t201 = true then ((impl_within.f a1 0 (wrap64 ((l0_1.length : Int) - 1))).bind fun t202 => (if t202 = true then ((impl_withoutClue.f l0_1 a1).bind fun t203 => (some (a0_0, t203, true))) else (some (0, ([] : List (S25)), false)))) else (some (0, ([] : List (S25)), false)))) = some (r1, r2, r3) := h
  clear h
  replace H := Option.bind_eq_some_iff.mp H
  obtain ⟨t201, A30, H⟩ := H
  replace H : (if t201 = true then ((impl_within.f a1 0 (wrap64 ((l0_1.length : Int) - 1))).bind fun t202 => (if t202 = true then ((impl_withoutClue.f l0_1 a1).bind fun t203 => (some (a0_0, t203, true))) else (some (0, ([] : List (S25)), false)))) else (some (0, ([] : List (S25)), false))) = some (r1, r2, r3) := H
  have A3 := Aside0.mk A30
  clear A30
  by_cases c4 : t201 = true
  · subst c4
    have H1 : ((impl_within.f a1 0 (wrap64 ((l0_1.length : Int) - 1))).bind fun t202 => (if t202 = true then ((impl_withoutClue.f l0_1 a1).bind fun t203 => (some (a0_0, t203, true))) else (some (0, ([] : List (S25)), false)))) = some (r1, r2, r3) := by rw [if_pos rfl] at H; exact H
    clear H
    have H := H1
    clear H1
    replace H := Option.bind_eq_some_iff.mp H
    obtain ⟨t202, A50, H⟩ := H
    replace H : (if t202 = true then ((impl_withoutClue.f l0_1 a1).bind fun t203 => (some (a0_0, t203, true))) else (some (0, ([] : List (S25)), false))) = some (r1, r2, r3) := H
    have A5 := Aside0.mk A50
    clear A50
    by_cases c6 : t202 = true
    · subst c6
      have H1 : ((impl_withoutClue.f l0_1 a1).bind fun t203 => (some (a0_0, t203, true))) = some (r1, r2, r3) := by rw [if_pos rfl] at H; exact H
      clear H
      have H := H1
      clear H1
      replace H := Option.bind_eq_some_iff.mp H
      obtain ⟨t203, A70, H⟩ := H
      replace H : (some (a0_0, t203, true)) = some (r1, r2, r3) := H
      have A7 := Aside0.mk A70
      clear A70
      simp only [Option.some.injEq, Prod.mk.injEq] at H
      obtain ⟨rfl, rfl, rfl⟩ := H
      go_enter Try.func35, Try.ntmps35
      try go_wp2_with (first | ((with_reducible refine gate_dst (N := 2) rfl ?_); (try (refine gate_guard (by rfl) ?_; dsimp only)); refine box_event ?hg (N := 2) ?hd (cs := #[.int .i64 a0_0, .slice A0_1 l0_1.length c0_1]) (t := 35) ?hr ?_; (case hd => rfl); (case hg => rfl); (case hr => first | (go_simp; done) | (go_simp; rfl)); intro gb199 hg w8 hbox hb; have n0_ := Aside0.mk (below_step (by repeat (first | (with_reducible first | exact HB.out | apply below_alloc | apply pw_below_drewN | apply below_drew1) | exact HB.out)) hb); have n1_ := Aside0.mk (hbox); have n2_ := Aside0.mk ((by rw [hg]; exact (below_size (by repeat (first | (with_reducible first | exact HB.out | apply below_alloc | apply pw_below_drewN | apply below_drew1) | exact HB.out))) : w.heap.size ≤ gb199)); have n3_ := Aside0.mk ((by rw [hg]; exact (below_size (by repeat (first | (with_reducible first | exact HB.out | apply below_alloc | apply pw_below_drewN | apply below_drew1) | exact HB.out))) : w.heap.size ≤ gb199)); clear HB; have HB := n0_; have BK199 := n1_; have GW199 := n2_; have GE199 := n3_; clear n0_ n1_ n2_ n3_; clear hb hbox hg) | ((with_reducible refine gate_dst (N := 4) rfl ?_); (try (refine gate_guard (by rfl) ?_; dsimp only)); refine box_event ?hg (N := 4) ?hd (cs := #[.int .i64 0, .slice none 0 0]) (t := 35) ?hr ?_; (case hd => rfl); (case hg => rfl); (case hr => first | (go_simp; done) | (go_simp; rfl)); intro gb200 hg w9 hbox hb; have n0_ := Aside0.mk (blk_below (g := gb199) (o := .cells #[.int .i64 a0_0, .slice A0_1 l0_1.length c0_1] 35 (0, 0)) (by (with_reducible repeat (first | refine blk_drewN ?_ _ | refine blk_drew ?_ | refine blk_alloc ?_ _)); exact BK199.out) hb); have n1_ := Aside0.mk (below_step (by repeat (first | (with_reducible first | exact HB.out | apply below_alloc | apply pw_below_drewN | apply below_drew1 | refine below_set ?_ GE199.out) | exact HB.out)) hb); have n2_ := Aside0.mk (hbox); have n3_ := Aside0.mk ((by rw [hg]; exact (below_size (by repeat (first | (with_reducible first | exact HB.out | apply below_alloc | apply pw_below_drewN | apply below_drew1 | refine below_set ?_ GE199.out) | exact HB.out))) : w.heap.size ≤ gb200)); have n4_ := Aside0.mk ((by rw [hg]; exact (below_size (by repeat (first | (with_reducible first | exact HB.out | apply below_alloc | apply pw_below_drewN | apply below_drew1 | refine below_set ?_ GE199.out) | exact HB.out))) : w.heap.size ≤ gb200)); have n5_ := Aside0.mk ((by rw [hg]; exact Nat.ne_of_lt (blk_lt (g := gb199) (o := .cells #[.int .i64 a0_0, .slice A0_1 l0_1.length c0_1] 35 (0, 0)) (by (with_reducible repeat (first | refine blk_drewN ?_ _ | refine blk_drew ?_ | refine blk_alloc ?_ _)); exact BK199.out)) : gb199 ≠ gb200)); have n6_ := Aside0.mk ((by rw [hg]; exact Nat.ne_of_gt (blk_lt (g := gb199) (o := .cells #[.int .i64 a0_0, .slice A0_1 l0_1.length c0_1] 35 (0, 0)) (by (with_reducible repeat (first | refine blk_drewN ?_ _ | refine blk_drew ?_ | refine blk_alloc ?_ _)); exact BK199.out)) : gb200 ≠ gb199)); clear BK199; clear HB; have BK199 := n0_; have HB := n1_; have BK200 := n2_; have GW200 := n3_; have GE200 := n4_; have NB199_200 := n5_; have NB200_199 := n6_; clear n0_ n1_ n2_ n3_ n4_ n5_ n6_; clear hb hbox hg; have hnb10 := NB199_200.out; have hnc10 := NB200_199.out; have hcz11_0 : w9.cell? ⟨gb199, 0, none⟩ = some (.int .i64 a0_0) := (blk_cell BK199.out 0).trans rfl; have hcz11_1 : w9.cell? ⟨gb199, 1, none⟩ = some (.slice A0_1 l0_1.length c0_1) := (blk_cell BK199.out 1).trans rfl; have hfz11_0 := blk_frozen BK199.out 0; have hfz11_1 := blk_frozen BK199.out 1) | ((with_reducible refine gate_callee (f := 25) rfl ?_); refine goesL_ (some 7) rfl rfl Try.func25 (by kernel_rfl) rfl #[.agg #[.int .i64 a0_0, .slice A0_1 l0_1.length c0_1]] rfl (by (try simp only [List.map_toArray, List.map_cons, List.map_nil]); first | done | rfl | (simp only [List.length_drop, List.length_take]; rfl)) ?_; (with_reducible refine (impl_IsPuzzle.calls a0_0 _ _ l0_1 true _ ?side1 ?side2 A3.out).mono ?_); (case side1 => repeat (first | exact (Kd.C_below HR0_1.out HB.out) | (with_reducible refine Kd.C_alloc ?_ _) | (with_reducible refine Kd.C_drewN ?_ _) | (with_reducible refine Kd.C_drew ?_))); (case side2 => exact HC0_1.out); rintro e w12 ⟨rfl, hb⟩; refine ⟨_, rfl, ?_⟩; have n0_ := Aside0.mk (blk_below (g := gb199) (o := .cells #[.int .i64 a0_0, .slice A0_1 l0_1.length c0_1] 35 (0, 0)) (by (with_reducible repeat (first | refine blk_drewN ?_ _ | refine blk_drew ?_ | refine blk_alloc ?_ _)); exact BK199.out) hb); have n1_ := Aside0.mk (blk_below (g := gb200) (o := .cells #[.int .i64 0, .slice none 0 0] 35 (0, 0)) (by (with_reducible repeat (first | refine blk_drewN ?_ _ | refine blk_drew ?_ | refine blk_alloc ?_ _)); exact BK200.out) hb); have n2_ := Aside0.mk (below_step (by repeat (first | (with_reducible first | exact HB.out | apply below_alloc | apply pw_below_drewN | apply below_drew1 | refine below_set ?_ GE199.out | refine below_set ?_ GE200.out) | exact HB.out)) hb); clear BK199; clear BK200; clear HB; have BK199 := n0_; have BK200 := n1_; have HB := n2_; clear n0_ n1_ n2_; (try clear hb); (try clear hb2); (try clear hk); (try clear hi); have hcz13_0 : w12.cell? ⟨gb199, 0, none⟩ = some (.int .i64 a0_0) := (blk_cell BK199.out 0).trans rfl; have hcz13_1 : w12.cell? ⟨gb199, 1, none⟩ = some (.slice A0_1 l0_1.length c0_1) := (blk_cell BK199.out 1).trans rfl; have hfz13_0 := blk_frozen BK199.out 0; have hfz13_1 := blk_frozen BK199.out 1) | (go_at_call 75; (with_reducible refine (impl_within.calls a1 0 (wrap64 ((l0_1.length : Int) - 1)) true _ A5.out).mono ?_); rintro e w' ⟨rfl, ⟨nd, rfl⟩⟩; (try (rw [drewN_self w12]; generalize hq_ : World.drewN w12 _ = w12; have n0_ : Aside0 (w12.heap[gb199]? = some (.cells #[.int .i64 a0_0, .slice A0_1 l0_1.length c0_1] 35 (0, 0))) := ⟨by rw [← hq_]; exact (by (with_reducible repeat (first | refine blk_drewN ?_ _ | refine blk_drew ?_ | refine blk_alloc ?_ _)); exact BK199.out)⟩; have n1_ : Aside0 (w12.heap[gb200]? = some (.cells #[.int .i64 0, .slice none 0 0] 35 (0, 0))) := ⟨by rw [← hq_]; exact (by (with_reducible repeat (first | refine blk_drewN ?_ _ | refine blk_drew ?_ | refine blk_alloc ?_ _)); exact BK200.out)⟩; have n2_ : Aside0 (Below w.heap.size w w12) := ⟨by rw [← hq_]; exact (by repeat (first | (with_reducible first | exact HB.out | apply below_alloc | apply pw_below_drewN | apply below_drew1 | refine below_set ?_ GE199.out | refine below_set ?_ GE200.out) | exact HB.out))⟩; clear BK199 BK200 HB hq_; have BK199 := n0_; have BK200 := n1_; have HB := n2_; clear n0_ n1_ n2_))))
      have n0_ := Aside0.mk (blk_drew BK199.out)
      have n1_ := Aside0.mk (blk_drew BK200.out)
      have n2_ := Aside0.mk (below_drew1 HB.out)
      clear BK199
      clear BK200
      clear HB
      have BK199 := n0_
      have BK200 := n1_
      have HB := n2_
      clear n0_ n1_ n2_
      refine start_ (n := 9) (S := fun w' => w'.cell? ⟨gb199, 0, none⟩ = some (.int .i64 a0_0) ∧ w'.cell? ⟨gb199, 1, none⟩ = some (.slice A0_1 l0_1.length c0_1)) (ds := []) #[false, false, false, false, false, false, false, false, false] (by kernel_rfl) rfl rfl ⟨(blk_cell BK199.out 0).trans rfl, (blk_cell BK199.out 1).trans rfl⟩ (fun hHeld => ?_); refine with_tabW impl_DropClue.tab3 impl_DropClue.bits3 (fun HT_ HW_ => ?_)
      generalize w12.drew = w14 at BK199 BK200 HB hHeld ⊢
      refine pure_ (i := 0) (N := some 19) (v := ?_) (a' := ?_) #[true, false, false, false, false, false, false, false, false] rfl rfl (any_of HT_.out (by kernel_rfl)) (fun _ _ _ h => h) (Or.inl ⟨by rfl, ?_⟩) ?_ ?_
      rotate_left
      · intro w'
        go_simp
        with_reducible rfl
      rotate_left
      · simp only [Act.put, List.setIfInBounds_toArray, List.set_cons_zero, List.set_cons_succ, i64_w, i32_w]
        rfl
      refine pure_ (i := 2) (N := some 21) (v := ?_) (a' := ?_) #[true, false, true, false, false, false, false, false, false] rfl rfl (any_of HT_.out (by kernel_rfl)) (fun _ _ _ h => h) (Or.inl ⟨by rfl, ?_⟩) ?_ ?_
      rotate_left
      · intro w'
        go_simp
        with_reducible rfl
      rotate_left
      · simp only [Act.put, List.setIfInBounds_toArray, List.set_cons_zero, List.set_cons_succ, i64_w, i32_w]
        rfl
      refine pure_ (i := 4) (N := some 23) (v := ?_) (a' := ?_) #[true, false, true, false, true, false, false, false, false] rfl rfl (any_of HT_.out (by kernel_rfl)) (fun _ _ _ h => h) (Or.inl ⟨by rfl, ?_⟩) ?_ ?_
      rotate_left
      · intro w'
        go_simp
        with_reducible rfl
      rotate_left
      · simp only [Act.put, List.setIfInBounds_toArray, List.set_cons_zero, List.set_cons_succ, i64_w, i32_w]
        rfl
      refine take_ (i := 1) (N := some 20) (v := ?_) (a' := ?_) #[true, true, true, false, true, false, false, false, false] rfl rfl (take_ofW HT_.out HW_.out (by kernel_rfl)) (fun _ _ _ h => h) (Or.inl ⟨by rfl, ?_⟩) hHeld ?_ ?_
      rotate_left
      · rintro w' ⟨s0, s1⟩
        go_simp
        with_reducible rfl
      rotate_left
      · simp only [Act.put, List.setIfInBounds_toArray, List.set_cons_zero, List.set_cons_succ, i64_w, i32_w]
        rfl
      refine take_ (i := 3) (N := some 22) (v := ?_) (a' := ?_) #[true, true, true, true, true, false, false, false, false] rfl rfl (take_ofW HT_.out HW_.out (by kernel_rfl)) (fun _ _ _ h => h) (Or.inl ⟨by rfl, ?_⟩) hHeld ?_ ?_
      rotate_left
      · rintro w' ⟨s0, s1⟩
        go_simp
        with_reducible rfl
      rotate_left
      · simp only [Act.put, List.setIfInBounds_toArray, List.set_cons_zero, List.set_cons_succ, i64_w, i32_w]
        rfl
      refine one_ (i := 5) (N := some 24) #[true, true, true, true, true, true, false, false, false] rfl rfl (one_of HT_.out (by kernel_rfl)) (by decide) (fun K hK => ?_)
      refine goes_ Try.func94 (by kernel_rfl) rfl #[.slice A0_1 l0_1.length c0_1, .int .i64 a1] (by rfl) rfl rfl (by (try simp only [List.map_toArray, List.map_cons, List.map_nil]); first | done | rfl | (simp only [List.length_drop, List.length_take]; rfl)) ?_
      with_reducible refine (impl_withoutClue.calls _ _ l0_1 a1 t203 _ ?side1 ?side2 A7.out).mono ?_
      (case side1 => repeat (first | exact (Kd.C_below HR0_1.out HB.out) | (with_reducible refine Kd.C_alloc ?_ _) | (with_reducible refine Kd.C_drewN ?_ _) | (with_reducible refine Kd.C_drew ?_)))
      (case side2 => exact HC0_1.out)
      rintro e w15 ⟨v204, rfl, ho0, hb⟩
      refine ⟨_, rfl, ?_⟩
      have n0_ := Aside0.mk (Kd.R_lower ho0 (below_size (by repeat (first | (with_reducible first | exact HB.out | apply below_alloc | apply pw_below_drewN | apply below_drew1 | refine below_set ?_ GE199.out | refine below_set ?_ GE200.out) | exact HB.out))))
      have n1_ := Aside0.mk (blk_below (g := gb199) (o := .cells #[.int .i64 a0_0, .slice A0_1 l0_1.length c0_1] 35 (0, 0)) (by (with_reducible repeat (first | refine blk_drewN ?_ _ | refine blk_drew ?_ | refine blk_alloc ?_ _)); exact BK199.out) hb)
      have n2_ := Aside0.mk (blk_below (g := gb200) (o := .cells #[.int .i64 0, .slice none 0 0] 35 (0, 0)) (by (with_reducible repeat (first | refine blk_drewN ?_ _ | refine blk_drew ?_ | refine blk_alloc ?_ _)); exact BK200.out) hb)
      have n3_ := Aside0.mk (below_step (by repeat (first | (with_reducible first | exact HB.out | apply below_alloc | apply pw_below_drewN | apply below_drew1 | refine below_set ?_ GE199.out | refine below_set ?_ GE200.out) | exact HB.out)) hb)
      clear BK199
      clear BK200
      clear HB
      have HO205 := n0_
      have BK199 := n1_
      have BK200 := n2_
      have HB := n3_
      clear n0_ n1_ n2_ n3_
      (try clear hb)
      (try clear hb2)
      (try clear hk)
      (try clear hi)
      (try clear ho0)
      obtain ⟨Ao16, co16, eo16⟩ := Kd.R_slice HO205.out
      (first | subst eo16 | (injection eo16 with f1_ f2_ f3_; have f4_ := f1_.symm; have f5_ := f3_.symm; clear f1_ f2_ f3_; subst f4_; subst f5_))
      refine hK.out _ _ ⟨(blk_cell BK199.out 0).trans rfl, (blk_cell BK199.out 1).trans rfl⟩ (fun hHeld => ?_)
      clear hK K
      refine norm_ (a' := ?_) ?_ ?_
      rotate_left
      · show Act.put _ (some 24) _ = _
        simp only [Act.put, List.setIfInBounds_toArray, List.set_cons_zero, List.set_cons_succ, i64_w, i32_w]
        rfl
      refine pure_ (i := 6) (N := some 25) (v := ?_) (a' := ?_) #[true, true, true, true, true, true, true, false, false] rfl rfl (any_of HT_.out (by kernel_rfl)) (fun _ _ _ h => h) (Or.inl ⟨by rfl, ?_⟩) ?_ ?_
      rotate_left
      · intro w'
        go_simp
        with_reducible rfl
      rotate_left
      · simp only [Act.put, List.setIfInBounds_toArray, List.set_cons_zero, List.set_cons_succ, i64_w, i32_w]
        rfl
      refine one_ (i := 7) (N := none) #[true, true, true, true, true, true, true, true, false] rfl rfl (one_of HT_.out (by kernel_rfl)) (by decide) (fun K hK => ?_)
      have hs17 : w15.cell? ⟨gb200, 0, none⟩ = some (.int .i64 0) := (blk_cell BK200.out 0).trans rfl
      have hfs17 := blk_frozen BK200.out 0
      have hns17_0 := NB199_200.out
      have hms17_0 := NB200_199.out
      have hs18 : w15.cell? ⟨gb200, 1, none⟩ = some (.slice none 0 0) := (blk_cell BK200.out 1).trans rfl
      have hfs18 := blk_frozen BK200.out 1
      have hns18_0 := NB199_200.out
      have hms18_0 := NB200_199.out
      refine skip_ (w1 := ?_) (by rfl) rfl ?_ ?_
      rotate_left
      · go_simp
        rfl
      refine hK.out _ _ ⟨((cell_far (p := ⟨gb200, _, none⟩) NB199_200.out _).trans (((cell_far (p := ⟨gb200, _, none⟩) NB199_200.out _).trans (hHeld.1)))), ((cell_far (p := ⟨gb200, _, none⟩) NB199_200.out _).trans (((cell_far (p := ⟨gb200, _, none⟩) NB199_200.out _).trans (hHeld.2))))⟩ (fun hHeld => ?_)
      clear hK K
      refine pure_ (i := 8) (N := some 5) (v := ?_) (a' := ?_) #[true, true, true, true, true, true, true, true, true] rfl rfl (any_of HT_.out (by kernel_rfl)) (fun _ _ _ h => h) (Or.inl ⟨by rfl, ?_⟩) ?_ ?_
      rotate_left
      · intro w'
        go_simp
        with_reducible rfl
      rotate_left
      · simp only [Act.put, List.setIfInBounds_toArray, List.set_cons_zero, List.set_cons_succ, i64_w, i32_w]
        rfl
      refine done_ (done_of HT_.out (by kernel_rfl)) ?_
      try go_wp2
      refine bodyPost_ret (results_ct rfl _ _ gb200 35 #[.int .i64 a0_0, .slice Ao16 t203.length co16] (0, 0) _ rfl (by (with_reducible repeat (first | refine blk_drewN ?_ _ | refine blk_drew ?_ | refine blk_alloc ?_ _)); refine blk_put (cs := #[.int .i64 a0_0, .slice none 0 0]) ?_ 1 _ rfl; (with_reducible repeat (first | refine blk_drewN ?_ _ | refine blk_drew ?_ | refine blk_alloc ?_ _)); refine blk_put (cs := #[.int .i64 0, .slice none 0 0]) ?_ 0 _ rfl; (with_reducible repeat (first | refine blk_drewN ?_ _ | refine blk_drew ?_ | refine blk_alloc ?_ _)); exact BK200.out) Try.underlying35 rfl (by kernel_rfl)) rfl ?_
      exact ⟨_, by first | rfl | (simp [errW_none, errW_some] <;> rfl) | (simp [*, errW_none, errW_some] <;> rfl), by (with_reducible repeat (first | apply Kd.R_alloc | apply Kd.R_drewN | apply Kd.R_drew)); exact Kd.R_mono (Kd.R_far (p := ⟨gb200, 1, none⟩) (Kd.R_far (p := ⟨gb200, 0, none⟩) (Kd.R_types HO205.out BK200.out (by decide)) (fun _ hk => hk.2) (.int .i64 a0_0)) (fun _ hk => hk.2) (.slice Ao16 t203.length co16)) (fun _ hk => trivial), by repeat (first | (with_reducible first | exact HB.out | apply below_alloc | apply pw_below_drewN | apply below_drew1 | refine below_set ?_ GE199.out | refine below_set ?_ GE200.out) | exact HB.out)⟩
    · replace c6 := Bool.eq_false_iff.mpr c6
      subst c6
      have H1 : (some (0, ([] : List (S25)), false)) = some (r1, r2, r3) := by rw [if_neg (show ¬ (false = true) by decide)] at H; exact H
      clear H
      have H := H1
      clear H1
      simp only [Option.some.injEq, Prod.mk.injEq] at H
      obtain ⟨rfl, rfl, rfl⟩ := H
      go_enter Try.func35, Try.ntmps35
      go_wp2_with (first | ((with_reducible refine gate_dst (N := 2) rfl ?_); (try (refine gate_guard (by rfl) ?_; dsimp only)); refine box_event ?hg (N := 2) ?hd (cs := #[.int .i64 a0_0, .slice A0_1 l0_1.length c0_1]) (t := 35) ?hr ?_; (case hd => rfl); (case hg => rfl); (case hr => first | (go_simp; done) | (go_simp; rfl)); intro gb199 hg w19 hbox hb; have n0_ := Aside0.mk (below_step (by repeat (first | (with_reducible first | exact HB.out | apply below_alloc | apply pw_below_drewN | apply below_drew1) | exact HB.out)) hb); have n1_ := Aside0.mk (hbox); have n2_ := Aside0.mk ((by rw [hg]; exact (below_size (by repeat (first | (with_reducible first | exact HB.out | apply below_alloc | apply pw_below_drewN | apply below_drew1) | exact HB.out))) : w.heap.size ≤ gb199)); have n3_ := Aside0.mk ((by rw [hg]; exact (below_size (by repeat (first | (with_reducible first | exact HB.out | apply below_alloc | apply pw_below_drewN | apply below_drew1) | exact HB.out))) : w.heap.size ≤ gb199)); clear HB; have HB := n0_; have BK199 := n1_; have GW199 := n2_; have GE199 := n3_; clear n0_ n1_ n2_ n3_; clear hb hbox hg) | ((with_reducible refine gate_dst (N := 4) rfl ?_); (try (refine gate_guard (by rfl) ?_; dsimp only)); refine box_event ?hg (N := 4) ?hd (cs := #[.int .i64 0, .slice none 0 0]) (t := 35) ?hr ?_; (case hd => rfl); (case hg => rfl); (case hr => first | (go_simp; done) | (go_simp; rfl)); intro gb200 hg w20 hbox hb; have n0_ := Aside0.mk (blk_below (g := gb199) (o := .cells #[.int .i64 a0_0, .slice A0_1 l0_1.length c0_1] 35 (0, 0)) (by (with_reducible repeat (first | refine blk_drewN ?_ _ | refine blk_drew ?_ | refine blk_alloc ?_ _)); exact BK199.out) hb); have n1_ := Aside0.mk (below_step (by repeat (first | (with_reducible first | exact HB.out | apply below_alloc | apply pw_below_drewN | apply below_drew1 | refine below_set ?_ GE199.out) | exact HB.out)) hb); have n2_ := Aside0.mk (hbox); have n3_ := Aside0.mk ((by rw [hg]; exact (below_size (by repeat (first | (with_reducible first | exact HB.out | apply below_alloc | apply pw_below_drewN | apply below_drew1 | refine below_set ?_ GE199.out) | exact HB.out))) : w.heap.size ≤ gb200)); have n4_ := Aside0.mk ((by rw [hg]; exact (below_size (by repeat (first | (with_reducible first | exact HB.out | apply below_alloc | apply pw_below_drewN | apply below_drew1 | refine below_set ?_ GE199.out) | exact HB.out))) : w.heap.size ≤ gb200)); have n5_ := Aside0.mk ((by rw [hg]; exact Nat.ne_of_lt (blk_lt (g := gb199) (o := .cells #[.int .i64 a0_0, .slice A0_1 l0_1.length c0_1] 35 (0, 0)) (by (with_reducible repeat (first | refine blk_drewN ?_ _ | refine blk_drew ?_ | refine blk_alloc ?_ _)); exact BK199.out)) : gb199 ≠ gb200)); have n6_ := Aside0.mk ((by rw [hg]; exact Nat.ne_of_gt (blk_lt (g := gb199) (o := .cells #[.int .i64 a0_0, .slice A0_1 l0_1.length c0_1] 35 (0, 0)) (by (with_reducible repeat (first | refine blk_drewN ?_ _ | refine blk_drew ?_ | refine blk_alloc ?_ _)); exact BK199.out)) : gb200 ≠ gb199)); clear BK199; clear HB; have BK199 := n0_; have HB := n1_; have BK200 := n2_; have GW200 := n3_; have GE200 := n4_; have NB199_200 := n5_; have NB200_199 := n6_; clear n0_ n1_ n2_ n3_ n4_ n5_ n6_; clear hb hbox hg; have hnb21 := NB199_200.out; have hnc21 := NB200_199.out; have hcz22_0 : w20.cell? ⟨gb199, 0, none⟩ = some (.int .i64 a0_0) := (blk_cell BK199.out 0).trans rfl; have hcz22_1 : w20.cell? ⟨gb199, 1, none⟩ = some (.slice A0_1 l0_1.length c0_1) := (blk_cell BK199.out 1).trans rfl; have hfz22_0 := blk_frozen BK199.out 0; have hfz22_1 := blk_frozen BK199.out 1) | ((with_reducible refine gate_callee (f := 25) rfl ?_); refine goesL_ (some 7) rfl rfl Try.func25 (by kernel_rfl) rfl #[.agg #[.int .i64 a0_0, .slice A0_1 l0_1.length c0_1]] rfl (by (try simp only [List.map_toArray, List.map_cons, List.map_nil]); first | done | rfl | (simp only [List.length_drop, List.length_take]; rfl)) ?_; (with_reducible refine (impl_IsPuzzle.calls a0_0 _ _ l0_1 true _ ?side1 ?side2 A3.out).mono ?_); (case side1 => repeat (first | exact (Kd.C_below HR0_1.out HB.out) | (with_reducible refine Kd.C_alloc ?_ _) | (with_reducible refine Kd.C_drewN ?_ _) | (with_reducible refine Kd.C_drew ?_))); (case side2 => exact HC0_1.out); rintro e w23 ⟨rfl, hb⟩; refine ⟨_, rfl, ?_⟩; have n0_ := Aside0.mk (blk_below (g := gb199) (o := .cells #[.int .i64 a0_0, .slice A0_1 l0_1.length c0_1] 35 (0, 0)) (by (with_reducible repeat (first | refine blk_drewN ?_ _ | refine blk_drew ?_ | refine blk_alloc ?_ _)); exact BK199.out) hb); have n1_ := Aside0.mk (blk_below (g := gb200) (o := .cells #[.int .i64 0, .slice none 0 0] 35 (0, 0)) (by (with_reducible repeat (first | refine blk_drewN ?_ _ | refine blk_drew ?_ | refine blk_alloc ?_ _)); exact BK200.out) hb); have n2_ := Aside0.mk (below_step (by repeat (first | (with_reducible first | exact HB.out | apply below_alloc | apply pw_below_drewN | apply below_drew1 | refine below_set ?_ GE199.out | refine below_set ?_ GE200.out) | exact HB.out)) hb); clear BK199; clear BK200; clear HB; have BK199 := n0_; have BK200 := n1_; have HB := n2_; clear n0_ n1_ n2_; (try clear hb); (try clear hb2); (try clear hk); (try clear hi); have hcz24_0 : w23.cell? ⟨gb199, 0, none⟩ = some (.int .i64 a0_0) := (blk_cell BK199.out 0).trans rfl; have hcz24_1 : w23.cell? ⟨gb199, 1, none⟩ = some (.slice A0_1 l0_1.length c0_1) := (blk_cell BK199.out 1).trans rfl; have hfz24_0 := blk_frozen BK199.out 0; have hfz24_1 := blk_frozen BK199.out 1) | (go_at_call 75; (with_reducible refine (impl_within.calls a1 0 (wrap64 ((l0_1.length : Int) - 1)) false _ A5.out).mono ?_); rintro e w' ⟨rfl, ⟨nd, rfl⟩⟩; (try (rw [drewN_self w23]; generalize hq_ : World.drewN w23 _ = w23; have n0_ : Aside0 (w23.heap[gb199]? = some (.cells #[.int .i64 a0_0, .slice A0_1 l0_1.length c0_1] 35 (0, 0))) := ⟨by rw [← hq_]; exact (by (with_reducible repeat (first | refine blk_drewN ?_ _ | refine blk_drew ?_ | refine blk_alloc ?_ _)); exact BK199.out)⟩; have n1_ : Aside0 (w23.heap[gb200]? = some (.cells #[.int .i64 0, .slice none 0 0] 35 (0, 0))) := ⟨by rw [← hq_]; exact (by (with_reducible repeat (first | refine blk_drewN ?_ _ | refine blk_drew ?_ | refine blk_alloc ?_ _)); exact BK200.out)⟩; have n2_ : Aside0 (Below w.heap.size w w23) := ⟨by rw [← hq_]; exact (by repeat (first | (with_reducible first | exact HB.out | apply below_alloc | apply pw_below_drewN | apply below_drew1 | refine below_set ?_ GE199.out | refine below_set ?_ GE200.out) | exact HB.out))⟩; clear BK199 BK200 HB hq_; have BK199 := n0_; have BK200 := n1_; have HB := n2_; clear n0_ n1_ n2_)); have hcz25_0 : w23.cell? ⟨gb200, 0, none⟩ = some (.int .i64 0) := (blk_cell BK200.out 0).trans rfl; have hcz25_1 : w23.cell? ⟨gb200, 1, none⟩ = some (.slice none 0 0) := (blk_cell BK200.out 1).trans rfl; have hfz25_0 := blk_frozen BK200.out 0; have hfz25_1 := blk_frozen BK200.out 1))
      refine bodyPost_ret (results_ct rfl _ _ gb200 35 #[.int .i64 0, .slice none 0 0] (0, 0) _ rfl (by (with_reducible repeat (first | refine blk_drewN ?_ _ | refine blk_drew ?_ | refine blk_alloc ?_ _)); refine blk_put (cs := #[.int .i64 0, .slice none 0 0]) ?_ 1 _ rfl; (with_reducible repeat (first | refine blk_drewN ?_ _ | refine blk_drew ?_ | refine blk_alloc ?_ _)); refine blk_put (cs := #[.int .i64 0, .slice none 0 0]) ?_ 0 _ rfl; (with_reducible repeat (first | refine blk_drewN ?_ _ | refine blk_drew ?_ | refine blk_alloc ?_ _)); exact BK200.out) Try.underlying35 rfl (by kernel_rfl)) rfl ?_
      exact ⟨_, by first | rfl | (simp [errW_none, errW_some] <;> rfl) | (simp [*, errW_none, errW_some] <;> rfl), by first | exact Kd.R_nil _ _ _ _ _ | exact Kd.N_nil _ _ _ _ _ | exact Kd.V_nil _ _ _ _ _ | exact Kd.Q_nil _ _ _ _ _ | exact Kd.S_nil _ _ _ _ _, by repeat (first | (with_reducible first | exact HB.out | apply below_alloc | apply pw_below_drewN | apply below_drew1 | refine below_set ?_ GE199.out | refine below_set ?_ GE200.out) | exact HB.out)⟩
  · replace c4 := Bool.eq_false_iff.mpr c4
    subst c4
    have H1 : (some (0, ([] : List (S25)), false)) = some (r1, r2, r3) := by rw [if_neg (show ¬ (false = true) by decide)] at H; exact H
    clear H
    have H := H1
    clear H1
    simp only [Option.some.injEq, Prod.mk.injEq] at H
    obtain ⟨rfl, rfl, rfl⟩ := H
    go_enter Try.func35, Try.ntmps35
    go_wp2_with (first | ((with_reducible refine gate_dst (N := 2) rfl ?_); (try (refine gate_guard (by rfl) ?_; dsimp only)); refine box_event ?hg (N := 2) ?hd (cs := #[.int .i64 a0_0, .slice A0_1 l0_1.length c0_1]) (t := 35) ?hr ?_; (case hd => rfl); (case hg => rfl); (case hr => first | (go_simp; done) | (go_simp; rfl)); intro gb199 hg w26 hbox hb; have n0_ := Aside0.mk (below_step (by repeat (first | (with_reducible first | exact HB.out | apply below_alloc | apply pw_below_drewN | apply below_drew1) | exact HB.out)) hb); have n1_ := Aside0.mk (hbox); have n2_ := Aside0.mk ((by rw [hg]; exact (below_size (by repeat (first | (with_reducible first | exact HB.out | apply below_alloc | apply pw_below_drewN | apply below_drew1) | exact HB.out))) : w.heap.size ≤ gb199)); have n3_ := Aside0.mk ((by rw [hg]; exact (below_size (by repeat (first | (with_reducible first | exact HB.out | apply below_alloc | apply pw_below_drewN | apply below_drew1) | exact HB.out))) : w.heap.size ≤ gb199)); clear HB; have HB := n0_; have BK199 := n1_; have GW199 := n2_; have GE199 := n3_; clear n0_ n1_ n2_ n3_; clear hb hbox hg) | ((with_reducible refine gate_dst (N := 4) rfl ?_); (try (refine gate_guard (by rfl) ?_; dsimp only)); refine box_event ?hg (N := 4) ?hd (cs := #[.int .i64 0, .slice none 0 0]) (t := 35) ?hr ?_; (case hd => rfl); (case hg => rfl); (case hr => first | (go_simp; done) | (go_simp; rfl)); intro gb200 hg w27 hbox hb; have n0_ := Aside0.mk (blk_below (g := gb199) (o := .cells #[.int .i64 a0_0, .slice A0_1 l0_1.length c0_1] 35 (0, 0)) (by (with_reducible repeat (first | refine blk_drewN ?_ _ | refine blk_drew ?_ | refine blk_alloc ?_ _)); exact BK199.out) hb); have n1_ := Aside0.mk (below_step (by repeat (first | (with_reducible first | exact HB.out | apply below_alloc | apply pw_below_drewN | apply below_drew1 | refine below_set ?_ GE199.out) | exact HB.out)) hb); have n2_ := Aside0.mk (hbox); have n3_ := Aside0.mk ((by rw [hg]; exact (below_size (by repeat (first | (with_reducible first | exact HB.out | apply below_alloc | apply pw_below_drewN | apply below_drew1 | refine below_set ?_ GE199.out) | exact HB.out))) : w.heap.size ≤ gb200)); have n4_ := Aside0.mk ((by rw [hg]; exact (below_size (by repeat (first | (with_reducible first | exact HB.out | apply below_alloc | apply pw_below_drewN | apply below_drew1 | refine below_set ?_ GE199.out) | exact HB.out))) : w.heap.size ≤ gb200)); have n5_ := Aside0.mk ((by rw [hg]; exact Nat.ne_of_lt (blk_lt (g := gb199) (o := .cells #[.int .i64 a0_0, .slice A0_1 l0_1.length c0_1] 35 (0, 0)) (by (with_reducible repeat (first | refine blk_drewN ?_ _ | refine blk_drew ?_ | refine blk_alloc ?_ _)); exact BK199.out)) : gb199 ≠ gb200)); have n6_ := Aside0.mk ((by rw [hg]; exact Nat.ne_of_gt (blk_lt (g := gb199) (o := .cells #[.int .i64 a0_0, .slice A0_1 l0_1.length c0_1] 35 (0, 0)) (by (with_reducible repeat (first | refine blk_drewN ?_ _ | refine blk_drew ?_ | refine blk_alloc ?_ _)); exact BK199.out)) : gb200 ≠ gb199)); clear BK199; clear HB; have BK199 := n0_; have HB := n1_; have BK200 := n2_; have GW200 := n3_; have GE200 := n4_; have NB199_200 := n5_; have NB200_199 := n6_; clear n0_ n1_ n2_ n3_ n4_ n5_ n6_; clear hb hbox hg; have hnb28 := NB199_200.out; have hnc28 := NB200_199.out; have hcz29_0 : w27.cell? ⟨gb199, 0, none⟩ = some (.int .i64 a0_0) := (blk_cell BK199.out 0).trans rfl; have hcz29_1 : w27.cell? ⟨gb199, 1, none⟩ = some (.slice A0_1 l0_1.length c0_1) := (blk_cell BK199.out 1).trans rfl; have hfz29_0 := blk_frozen BK199.out 0; have hfz29_1 := blk_frozen BK199.out 1) | ((with_reducible refine gate_callee (f := 25) rfl ?_); refine goesL_ (some 7) rfl rfl Try.func25 (by kernel_rfl) rfl #[.agg #[.int .i64 a0_0, .slice A0_1 l0_1.length c0_1]] rfl (by (try simp only [List.map_toArray, List.map_cons, List.map_nil]); first | done | rfl | (simp only [List.length_drop, List.length_take]; rfl)) ?_; (with_reducible refine (impl_IsPuzzle.calls a0_0 _ _ l0_1 false _ ?side1 ?side2 A3.out).mono ?_); (case side1 => repeat (first | exact (Kd.C_below HR0_1.out HB.out) | (with_reducible refine Kd.C_alloc ?_ _) | (with_reducible refine Kd.C_drewN ?_ _) | (with_reducible refine Kd.C_drew ?_))); (case side2 => exact HC0_1.out); rintro e w30 ⟨rfl, hb⟩; refine ⟨_, rfl, ?_⟩; have n0_ := Aside0.mk (blk_below (g := gb199) (o := .cells #[.int .i64 a0_0, .slice A0_1 l0_1.length c0_1] 35 (0, 0)) (by (with_reducible repeat (first | refine blk_drewN ?_ _ | refine blk_drew ?_ | refine blk_alloc ?_ _)); exact BK199.out) hb); have n1_ := Aside0.mk (blk_below (g := gb200) (o := .cells #[.int .i64 0, .slice none 0 0] 35 (0, 0)) (by (with_reducible repeat (first | refine blk_drewN ?_ _ | refine blk_drew ?_ | refine blk_alloc ?_ _)); exact BK200.out) hb); have n2_ := Aside0.mk (below_step (by repeat (first | (with_reducible first | exact HB.out | apply below_alloc | apply pw_below_drewN | apply below_drew1 | refine below_set ?_ GE199.out | refine below_set ?_ GE200.out) | exact HB.out)) hb); clear BK199; clear BK200; clear HB; have BK199 := n0_; have BK200 := n1_; have HB := n2_; clear n0_ n1_ n2_; (try clear hb); (try clear hb2); (try clear hk); (try clear hi); have hcz31_0 : w30.cell? ⟨gb200, 0, none⟩ = some (.int .i64 0) := (blk_cell BK200.out 0).trans rfl; have hcz31_1 : w30.cell? ⟨gb200, 1, none⟩ = some (.slice none 0 0) := (blk_cell BK200.out 1).trans rfl; have hfz31_0 := blk_frozen BK200.out 0; have hfz31_1 := blk_frozen BK200.out 1))
    refine bodyPost_ret (results_ct rfl _ _ gb200 35 #[.int .i64 0, .slice none 0 0] (0, 0) _ rfl (by (with_reducible repeat (first | refine blk_drewN ?_ _ | refine blk_drew ?_ | refine blk_alloc ?_ _)); refine blk_put (cs := #[.int .i64 0, .slice none 0 0]) ?_ 1 _ rfl; (with_reducible repeat (first | refine blk_drewN ?_ _ | refine blk_drew ?_ | refine blk_alloc ?_ _)); refine blk_put (cs := #[.int .i64 0, .slice none 0 0]) ?_ 0 _ rfl; (with_reducible repeat (first | refine blk_drewN ?_ _ | refine blk_drew ?_ | refine blk_alloc ?_ _)); exact BK200.out) Try.underlying35 rfl (by kernel_rfl)) rfl ?_
    exact ⟨_, by first | rfl | (simp [errW_none, errW_some] <;> rfl) | (simp [*, errW_none, errW_some] <;> rfl), by first | exact Kd.R_nil _ _ _ _ _ | exact Kd.N_nil _ _ _ _ _ | exact Kd.V_nil _ _ _ _ _ | exact Kd.Q_nil _ _ _ _ _ | exact Kd.S_nil _ _ _ _ _, by repeat (first | (with_reducible first | exact HB.out | apply below_alloc | apply pw_below_drewN | apply below_drew1 | refine below_set ?_ GE199.out | refine below_set ?_ GE200.out) | exact HB.out)⟩

-- FOR laws.FnExactDropClue
set_option maxHeartbeats 8000000 in
set_option maxRecDepth 100000 in
theorem hand_FnExactDropClue (k : Nat) (a0_0 : Int) (A0_1 : Option Addr) (c0_1 : Nat) (l0_1 : List S23) (a1 : Int) (w : World) (hr0_1 : Kd.C k23 w A0_1 l0_1.length l0_1) (hc0_1 : l0_1.length ≤ c0_1)
    (F F' L Lx : List S25) (t : Int) (r1 : Int) (G Gm : List S25) (r2 : Bool) (kx m : Int) (s : Int) (hs : laws_szPuzzle.f a0_0 l0_1 1000000 = some s) (hs0 : 0 ≤ s)
    (hF : full_toClueS.f k l0_1 false = some F) (hL : F.take l0_1.length = L) (hLl : L.length = l0_1.length) (hF' : full_toClueS.f k l0_1 true = some F') (hF2 : l0_1.length ≠ 0 → F' = F) (hF0 : l0_1.length = 0 → F' = [])
    (ht : laws_roomBehind.f (l0_1.length : Int) = some t) (hn : wrap64 ((l0_1.length : Int) + t) = (F.length : Int)) (he : laws_eqClueS.f k F F = some true)
    (h1 : spec_DropClue.f k a0_0 L a1 = some (r1, G, r2)) (h2 : impl_DropClue.f a0_0 L a1 = some (r1, G, r2))
    (hq : laws_eqPuzzle.f k r1 G r1 G = some true) (hmx : laws_markPuzzle.f k a0_0 L 101 = some (kx, Lx)) (hkx : 0 ≤ kx) (hmg : laws_markPuzzle.f k r1 G 101 = some (m, Gm)) (hhg : laws_heldPuzzle.f k r1 Gm 101 = some m) (hm0 : 0 ≤ m) (hGm : Gm.length = G.length) :
    Calls Try.prog 7 #[.agg #[.int .i64 a0_0, .slice A0_1 l0_1.length c0_1], .int .i64 a1] w fun e w' => e = .returned (.bool true) ∧ Below w.heap.size w w' := by
  have HR := Aside0.mk hr0_1
  have HC := Aside0.mk hc0_1
  have H0 := Aside0.mk hs
  have HF := Aside0.mk hF
  have HF' := Aside0.mk hF'
  have HT := Aside0.mk ht
  have HN := Aside0.mk hn
  have HE := Aside0.mk he
  have H1 := Aside0.mk h1
  have H2 := Aside0.mk h2
  have HF2 := Aside0.mk hF2
  have HF0 := Aside0.mk hF0
  have HL := Aside0.mk hL
  have HLl := Aside0.mk hLl
  have HQ := Aside0.mk hq
  have HMX := Aside0.mk hmx
  have HMG := Aside0.mk hmg
  have HHG := Aside0.mk hhg
  have HGm := Aside0.mk hGm
  have hs1 : decide (s < 0) = false := decide_eq_false (by omega)
  have dk : decide (kx < 0) = false := decide_eq_false (by omega)
  have dm : decide (m < 0) = false := decide_eq_false (by omega)
  clear hq hmx hkx hmg hhg hm0 hGm hr0_1 hc0_1 hs hF hF' ht hn he h1 h2 hF2 hF0 hL hLl hs0
  go_enter Try.func7, Try.ntmps7
  go_wp2_with fail
  have HB0 : Aside0 (Below w.heap.size w (w.alloc (.cells #[.int .i64 a0_0, .slice A0_1 l0_1.length c0_1] 30 (0, 0)))) := ⟨below_alloc (Below.refl _ _) _⟩
  have BK0 : Aside0 ((w.alloc (.cells #[.int .i64 a0_0, .slice A0_1 l0_1.length c0_1] 30 (0, 0))).heap[w.heap.size]? = some (.cells #[.int .i64 a0_0, .slice A0_1 l0_1.length c0_1] 30 (0, 0))) := ⟨blk_new _ _⟩
  refine (laws_szPuzzle.calls a0_0 _ _ l0_1 _ _ _ (Kd.C_below HR.out HB0.out) HC.out H0.out).mono ?_
  rintro e w1 ⟨rfl, hb⟩
  have HB1 : Aside0 (Below w.heap.size w w1) := ⟨below_step HB0.out hb⟩
  have BK1 : Aside0 (w1.heap[w.heap.size]? = some (.cells #[.int .i64 a0_0, .slice A0_1 l0_1.length c0_1] 30 (0, 0))) := ⟨blk_below BK0.out hb⟩
  clear HB0 BK0 hb
  have ck10 := (blk_cell BK1.out 0).trans rfl
  have ck11 := (blk_cell BK1.out 1).trans rfl
  go_wp2_with fail
  refine (full_toPuzzle k a0_0 _ _ l0_1 false F _ (Kd.C_below HR.out HB1.out) HC.out HF.out).mono ?_
  rintro e w2 hp
  obtain ⟨A2, n2, c2, rfl, hR2, hn2, hb⟩ := hp
  obtain rfl : n2 = L.length := by rcases hn2 with h_ | ⟨h_, h2_⟩; exact h_.trans HLl.out.symm; exact h2_.trans (by rw [← HL.out, h_]; simp)
  have HB2 : Aside0 (Below w.heap.size w w2) := ⟨below_step HB1.out hb⟩
  have BK2 : Aside0 (w2.heap[w.heap.size]? = some (.cells #[.int .i64 a0_0, .slice A0_1 l0_1.length c0_1] 30 (0, 0))) := ⟨blk_below BK1.out hb⟩
  have HL2 : Aside0 (L.length ≤ F.length) := ⟨by rw [← HL.out, List.length_take]; omega⟩
  have hq := Kd.R_reads' hR2
  have HC2 : Aside0 (Kd.C k25 w2 A2 L.length L) := ⟨by have h_ := Hw.C_take hq.2.2 L.length HL2.out; rw [HLl.out, HL.out, ← HLl.out] at h_; exact h_⟩
  have HC2' : Aside0 (L.length ≤ c2) := ⟨Nat.le_trans HL2.out hq.2.1⟩
  clear HB1 BK1 hb ck10 ck11 hR2 hn2 hq
  go_wp2_with fail
  refine (spec_DropClue.calls k a0_0 _ _ L a1 r1 G r2 w2 HC2.out HC2'.out H1.out).mono ?_
  rintro e w3 ⟨v3, rfl, ho, hb⟩
  obtain ⟨A3, c3, rfl⟩ := Kd.R_slice ho
  have HB3_ : Aside0 (Below w.heap.size w w3) := ⟨below_step HB2.out hb⟩
  have BK3_ : Aside0 (w3.heap[w.heap.size]? = some (.cells #[.int .i64 a0_0, .slice A0_1 l0_1.length c0_1] 30 (0, 0))) := ⟨blk_below BK2.out hb⟩
  have HW3_ : Aside0 (Kd.R k25 25 w3 w.heap.size (fun k_ => k_ < w3.heap.size) (.slice A3 G.length c3) G) := ⟨Kd.R_mono (Kd.R_bound (Kd.R_lower ho (below_size HB2.out))) (fun k_ hk => hk.2.2.1)⟩
  have HB3 : Aside0 (Below w.heap.size w (w3.alloc (.cells #[.int .i64 r1, .slice A3 G.length c3] 35 (0, 0)))) := ⟨below_alloc HB3_.out _⟩
  have BK3 : Aside0 ((w3.alloc (.cells #[.int .i64 r1, .slice A3 G.length c3] 35 (0, 0))).heap[w.heap.size]? = some (.cells #[.int .i64 a0_0, .slice A0_1 l0_1.length c0_1] 30 (0, 0))) := ⟨blk_alloc BK3_.out _⟩
  have HW3 : Aside0 (Kd.R k25 25 (w3.alloc (.cells #[.int .i64 r1, .slice A3 G.length c3] 35 (0, 0))) w.heap.size (fun k_ => k_ < w3.heap.size) (.slice A3 G.length c3) G) := ⟨Kd.R_alloc HW3_.out _⟩
  have BW3 : Aside0 ((w3.alloc (.cells #[.int .i64 r1, .slice A3 G.length c3] 35 (0, 0))).heap[w3.heap.size]? = some (.cells #[.int .i64 r1, .slice A3 G.length c3] 35 (0, 0))) := ⟨blk_new _ _⟩
  have HN3 : Aside0 (w.heap.size < w3.heap.size) := ⟨blk_lt BK3_.out⟩
  clear HB2 BK2 hb HC2 HC2' ho HB3_ BK3_ HW3_
  have ck30 := (blk_cell BK3.out 0).trans rfl
  have ck31 := (blk_cell BK3.out 1).trans rfl
  go_wp2_with fail
  refine (full_toPuzzle k a0_0 _ _ l0_1 false F _ (Kd.C_below HR.out HB3.out) HC.out HF.out).mono ?_
  rintro e w4 hp
  obtain ⟨A4, n4, c4, rfl, hR4, hn4, hb⟩ := hp
  obtain rfl : n4 = L.length := by rcases hn4 with h_ | ⟨h_, h2_⟩; exact h_.trans HLl.out.symm; exact h2_.trans (by rw [← HL.out, h_]; simp)
  have HB4_ : Aside0 (Below w.heap.size w w4) := ⟨below_step HB3.out hb⟩
  have BK4_ : Aside0 (w4.heap[w.heap.size]? = some (.cells #[.int .i64 a0_0, .slice A0_1 l0_1.length c0_1] 30 (0, 0))) := ⟨blk_below BK3.out hb⟩
  have HW4_ : Aside0 (Kd.R k25 25 w4 w.heap.size (fun k_ => k_ < w3.heap.size) (.slice A3 G.length c3) G) := ⟨Kd.R_below HW3.out hb⟩
  have BW4_ : Aside0 (w4.heap[w3.heap.size]? = some (.cells #[.int .i64 r1, .slice A3 G.length c3] 35 (0, 0))) := ⟨blk_below BW3.out hb⟩
  have hq := Kd.R_reads' hR4
  have HC4_ : Aside0 (Kd.C k25 w4 A4 F.length F) := ⟨hq.2.2⟩
  have HC4' : Aside0 (F.length ≤ c4) := ⟨hq.2.1⟩
  have HX4_ : Aside0 (Kd.R k25 25 w4 w.heap.size (fun k_ => w3.heap.size + 1 ≤ k_ ∧ k_ < w4.heap.size) (.slice A4 L.length c4) L) := ⟨by
    have h_ := Hw.R_take hR4 L.length HL2.out
    rw [HLl.out, HL.out, ← HLl.out] at h_
    exact Kd.R_mono (Kd.R_lower (Kd.R_bound h_) (below_size HB3.out)) (fun k_ hk => ⟨by have := hk.2.1; simpa using this, hk.2.2.1⟩)⟩
  have hs34 : w3.heap.size + 1 ≤ w4.heap.size := by have := hb.size; simpa using this
  have HS34 := Aside0.mk hs34
  have HB4 : Aside0 (Below w.heap.size w (w4.alloc (.cells #[.int .i64 a0_0, .slice A4 L.length c4] 35 (0, 0)))) := ⟨below_alloc HB4_.out _⟩
  have BK4 : Aside0 ((w4.alloc (.cells #[.int .i64 a0_0, .slice A4 L.length c4] 35 (0, 0))).heap[w.heap.size]? = some (.cells #[.int .i64 a0_0, .slice A0_1 l0_1.length c0_1] 30 (0, 0))) := ⟨blk_alloc BK4_.out _⟩
  have HW4 : Aside0 (Kd.R k25 25 (w4.alloc (.cells #[.int .i64 a0_0, .slice A4 L.length c4] 35 (0, 0))) w.heap.size (fun k_ => k_ < w3.heap.size) (.slice A3 G.length c3) G) := ⟨Kd.R_alloc HW4_.out _⟩
  have BW4 : Aside0 ((w4.alloc (.cells #[.int .i64 a0_0, .slice A4 L.length c4] 35 (0, 0))).heap[w3.heap.size]? = some (.cells #[.int .i64 r1, .slice A3 G.length c3] 35 (0, 0))) := ⟨blk_alloc BW4_.out _⟩
  have HC4 : Aside0 (Kd.C k25 (w4.alloc (.cells #[.int .i64 a0_0, .slice A4 L.length c4] 35 (0, 0))) A4 F.length F) := ⟨Kd.C_alloc HC4_.out _⟩
  have HX4 : Aside0 (Kd.R k25 25 (w4.alloc (.cells #[.int .i64 a0_0, .slice A4 L.length c4] 35 (0, 0))) w.heap.size (fun k_ => w3.heap.size + 1 ≤ k_ ∧ k_ < w4.heap.size) (.slice A4 L.length c4) L) := ⟨Kd.R_alloc HX4_.out _⟩
  have BX4 : Aside0 ((w4.alloc (.cells #[.int .i64 a0_0, .slice A4 L.length c4] 35 (0, 0))).heap[w4.heap.size]? = some (.cells #[.int .i64 a0_0, .slice A4 L.length c4] 35 (0, 0))) := ⟨blk_new _ _⟩
  have HC4L : Aside0 (Kd.C k25 (w4.alloc (.cells #[.int .i64 a0_0, .slice A4 L.length c4] 35 (0, 0))) A4 L.length L) := ⟨by have h_ := Hw.C_take HC4.out L.length HL2.out; rw [HLl.out, HL.out, ← HLl.out] at h_; exact h_⟩
  clear HB3 BK3 HW3 BW3 hb ck30 ck31 hR4 hn4 hq HB4_ BK4_ HW4_ BW4_ HC4_ HX4_ hs34
  have cx40 := (blk_cell BX4.out 0).trans rfl
  have cx41 := (blk_cell BX4.out 1).trans rfl
  go_wp2_with fail
  refine (impl_DropClue.calls a0_0 _ _ L a1 r1 G r2 _ HC4L.out (Nat.le_trans HL2.out HC4'.out) H2.out).mono ?_
  rintro e w5 ⟨v5, rfl, ho, hb⟩
  obtain ⟨A5, c5, rfl⟩ := Kd.R_slice ho
  have HB5_ : Aside0 (Below w.heap.size w w5) := ⟨below_step HB4.out hb⟩
  have BK5_ : Aside0 (w5.heap[w.heap.size]? = some (.cells #[.int .i64 a0_0, .slice A0_1 l0_1.length c0_1] 30 (0, 0))) := ⟨blk_below BK4.out hb⟩
  have BW5_ : Aside0 (w5.heap[w3.heap.size]? = some (.cells #[.int .i64 r1, .slice A3 G.length c3] 35 (0, 0))) := ⟨blk_below BW4.out hb⟩
  have BX5_ : Aside0 (w5.heap[w4.heap.size]? = some (.cells #[.int .i64 a0_0, .slice A4 L.length c4] 35 (0, 0))) := ⟨blk_below BX4.out hb⟩
  have HC5_ : Aside0 (Kd.C k25 w5 A4 F.length F) := ⟨Kd.C_below HC4.out hb⟩
  have HX5_ : Aside0 (Kd.R k25 25 w5 w.heap.size (fun k_ => w3.heap.size + 1 ≤ k_ ∧ k_ < w4.heap.size) (.slice A4 L.length c4) L) := ⟨Kd.R_below HX4.out hb⟩
  have HW5_ : Aside0 (Kd.R k25 25 w5 w.heap.size (fun k_ => k_ < w3.heap.size) (.slice A3 G.length c3) G) := ⟨Kd.R_below HW4.out hb⟩
  have HG5_ : Aside0 (Kd.R k25 25 w5 w.heap.size (fun k_ => w4.heap.size + 1 ≤ k_ ∧ k_ < w5.heap.size) (.slice A5 G.length c5) G) := ⟨Kd.R_mono (Kd.R_lower (Kd.R_bound ho) (below_size HB4.out)) (fun k_ hk => ⟨by have := hk.2.1; simpa using this, hk.2.2.1⟩)⟩
  have HS45 : Aside0 (w4.heap.size + 1 ≤ w5.heap.size) := ⟨by have := hb.size; simpa using this⟩
  have HB5 : Aside0 (Below w.heap.size w (w5.alloc (.cells #[.int .i64 r1, .slice A5 G.length c5] 35 (0, 0)))) := ⟨below_alloc HB5_.out _⟩
  have BK5 : Aside0 ((w5.alloc (.cells #[.int .i64 r1, .slice A5 G.length c5] 35 (0, 0))).heap[w.heap.size]? = some (.cells #[.int .i64 a0_0, .slice A0_1 l0_1.length c0_1] 30 (0, 0))) := ⟨blk_alloc BK5_.out _⟩
  have BW5 : Aside0 ((w5.alloc (.cells #[.int .i64 r1, .slice A5 G.length c5] 35 (0, 0))).heap[w3.heap.size]? = some (.cells #[.int .i64 r1, .slice A3 G.length c3] 35 (0, 0))) := ⟨blk_alloc BW5_.out _⟩
  have BX5 : Aside0 ((w5.alloc (.cells #[.int .i64 r1, .slice A5 G.length c5] 35 (0, 0))).heap[w4.heap.size]? = some (.cells #[.int .i64 a0_0, .slice A4 L.length c4] 35 (0, 0))) := ⟨blk_alloc BX5_.out _⟩
  have HC5 : Aside0 (Kd.C k25 (w5.alloc (.cells #[.int .i64 r1, .slice A5 G.length c5] 35 (0, 0))) A4 F.length F) := ⟨Kd.C_alloc HC5_.out _⟩
  have HX5 : Aside0 (Kd.R k25 25 (w5.alloc (.cells #[.int .i64 r1, .slice A5 G.length c5] 35 (0, 0))) w.heap.size (fun k_ => w3.heap.size + 1 ≤ k_ ∧ k_ < w4.heap.size) (.slice A4 L.length c4) L) := ⟨Kd.R_alloc HX5_.out _⟩
  have HW5 : Aside0 (Kd.R k25 25 (w5.alloc (.cells #[.int .i64 r1, .slice A5 G.length c5] 35 (0, 0))) w.heap.size (fun k_ => k_ < w3.heap.size) (.slice A3 G.length c3) G) := ⟨Kd.R_alloc HW5_.out _⟩
  have HG5 : Aside0 (Kd.R k25 25 (w5.alloc (.cells #[.int .i64 r1, .slice A5 G.length c5] 35 (0, 0))) w.heap.size (fun k_ => w4.heap.size + 1 ≤ k_ ∧ k_ < w5.heap.size) (.slice A5 G.length c5) G) := ⟨Kd.R_alloc HG5_.out _⟩
  have BG5 : Aside0 ((w5.alloc (.cells #[.int .i64 r1, .slice A5 G.length c5] 35 (0, 0))).heap[w5.heap.size]? = some (.cells #[.int .i64 r1, .slice A5 G.length c5] 35 (0, 0))) := ⟨blk_new _ _⟩
  clear HC4L hb ho cx40 cx41
  clear HB4 BK4 BW4 BX4 HC4 HX4 HW4
  clear HB5_ BK5_ BW5_ BX5_ HC5_ HX5_ HW5_ HG5_
  have cw50 := (blk_cell BW5.out 0).trans rfl
  have cw51 := (blk_cell BW5.out 1).trans rfl
  have cg50 := (blk_cell BG5.out 0).trans rfl
  have cg51 := (blk_cell BG5.out 1).trans rfl
  go_wp2_with fail
  refine (laws_eqPuzzle.calls k r1 _ _ G r1 _ _ G true _ (Kd.R_reads' HG5.out).2.2 (Kd.R_reads' HG5.out).2.1 (Kd.R_reads' HW5.out).2.2 (Kd.R_reads' HW5.out).2.1 HQ.out).mono ?_
  rintro e w6 ⟨rfl, hb⟩
  have HB6 : Aside0 (Below w.heap.size w w6) := ⟨below_step HB5.out hb⟩
  have BK6 : Aside0 (w6.heap[w.heap.size]? = some (.cells #[.int .i64 a0_0, .slice A0_1 l0_1.length c0_1] 30 (0, 0))) := ⟨blk_below BK5.out hb⟩
  have BW6 : Aside0 (w6.heap[w3.heap.size]? = some (.cells #[.int .i64 r1, .slice A3 G.length c3] 35 (0, 0))) := ⟨blk_below BW5.out hb⟩
  have BX6 : Aside0 (w6.heap[w4.heap.size]? = some (.cells #[.int .i64 a0_0, .slice A4 L.length c4] 35 (0, 0))) := ⟨blk_below BX5.out hb⟩
  have HC6 : Aside0 (Kd.C k25 w6 A4 F.length F) := ⟨Kd.C_below HC5.out hb⟩
  have HX6 : Aside0 (Kd.R k25 25 w6 w.heap.size (fun k_ => w3.heap.size + 1 ≤ k_ ∧ k_ < w4.heap.size) (.slice A4 L.length c4) L) := ⟨Kd.R_below HX5.out hb⟩
  have HW6 : Aside0 (Kd.R k25 25 w6 w.heap.size (fun k_ => k_ < w3.heap.size) (.slice A3 G.length c3) G) := ⟨Kd.R_below HW5.out hb⟩
  have HG6 : Aside0 (Kd.R k25 25 w6 w.heap.size (fun k_ => w4.heap.size + 1 ≤ k_ ∧ k_ < w5.heap.size) (.slice A5 G.length c5) G) := ⟨Kd.R_below HG5.out hb⟩
  have BG6 : Aside0 (w6.heap[w5.heap.size]? = some (.cells #[.int .i64 r1, .slice A5 G.length c5] 35 (0, 0))) := ⟨blk_below BG5.out hb⟩
  clear HB5 BK5 BW5 BX5 HC5 HX5 HW5 HG5 BG5 hb cw50 cw51 cg50 cg51
  have hr2 : (r2 != r2) = false := by simp
  have ck60 := (blk_cell BK6.out 0).trans rfl
  have ck61 := (blk_cell BK6.out 1).trans rfl
  have cx60 := (blk_cell BX6.out 0).trans rfl
  have cx61 := (blk_cell BX6.out 1).trans rfl
  go_wp2_with fail
  have HB6' : Aside0 (∀ W, Below w6.heap.size w6 W → Below w.heap.size w W) := ⟨fun W h_ => below_step HB6.out h_⟩
  go_region_held3 (fun w' => w'.cell? ⟨w.heap.size, 0, none⟩ = some (.int .i64 a0_0) ∧ w'.cell? ⟨w.heap.size, 1, none⟩ = some (.slice A0_1 l0_1.length c0_1) ∧ w'.cell? ⟨w4.heap.size, 0, none⟩ = some (.int .i64 a0_0) ∧ w'.cell? ⟨w4.heap.size, 1, none⟩ = some (.slice A4 L.length c4)) (first | exact ⟨ck60, ck61, cx60, cx61⟩ | exact ⟨ck70, ck71, cx70, cx71⟩ | exact ⟨ck80, ck81, cx80, cx81⟩) (first
    | (go_at_call 24; refine (full_toPuzzle k a0_0 _ _ l0_1 false F _ (Kd.C_below HR.out (below_drew1 HB6.out)) HC.out HF.out).mono ?_; rintro e w7 hp; obtain ⟨A7, n7, c7, rfl, hR7, hn7, hb⟩ := hp; obtain rfl : n7 = L.length := (by rcases hn7 with h_ | ⟨h_, h2_⟩; exact h_.trans HLl.out.symm; exact h2_.trans (by rw [← HL.out, h_]; simp)); have hq7 := Kd.R_reads' hR7; have hb7 : Below w6.heap.size w6 w7 := below_step (below_drew1 (Below.refl _ _)) hb; have HB7 : Aside0 (Below w.heap.size w w7) := ⟨HB6'.out _ hb7⟩; have BK7 : Aside0 (w7.heap[w.heap.size]? = some (.cells #[.int .i64 a0_0, .slice A0_1 l0_1.length c0_1] 30 (0, 0))) := ⟨blk_below BK6.out hb7⟩; have BW7 : Aside0 (w7.heap[w3.heap.size]? = some (.cells #[.int .i64 r1, .slice A3 G.length c3] 35 (0, 0))) := ⟨blk_below BW6.out hb7⟩; have BX7 : Aside0 (w7.heap[w4.heap.size]? = some (.cells #[.int .i64 a0_0, .slice A4 L.length c4] 35 (0, 0))) := ⟨blk_below BX6.out hb7⟩; have HC7 : Aside0 (Kd.C k25 w7 A4 F.length F) := ⟨Kd.C_below HC6.out hb7⟩; have HX7 : Aside0 (Kd.R k25 25 w7 w.heap.size (fun k_ => w3.heap.size + 1 ≤ k_ ∧ k_ < w4.heap.size) (.slice A4 L.length c4) L) := ⟨Kd.R_below HX6.out hb7⟩; have HW7 : Aside0 (Kd.R k25 25 w7 w.heap.size (fun k_ => k_ < w3.heap.size) (.slice A3 G.length c3) G) := ⟨Kd.R_below HW6.out hb7⟩; have HG7 : Aside0 (Kd.R k25 25 w7 w.heap.size (fun k_ => w4.heap.size + 1 ≤ k_ ∧ k_ < w5.heap.size) (.slice A5 G.length c5) G) := ⟨Kd.R_below HG6.out hb7⟩; have BG7 : Aside0 (w7.heap[w5.heap.size]? = some (.cells #[.int .i64 r1, .slice A5 G.length c5] 35 (0, 0))) := ⟨blk_below BG6.out hb7⟩; have HD7 : Aside0 (Kd.C k25 w7 A7 F.length F) := ⟨hq7.2.2⟩; have HD7c : Aside0 (F.length ≤ c7) := ⟨hq7.2.1⟩; have ck70 := (blk_cell BK7.out 0).trans rfl; have ck71 := (blk_cell BK7.out 1).trans rfl; have cx70 := (blk_cell BX7.out 0).trans rfl; have cx71 := (blk_cell BX7.out 1).trans rfl; clear hb hb7 hq7 hR7 hn7)
    | (go_at_call 26; refine (intact_Puzzle k a0_0 F A4 A7 L.length c4 c7 t w7 (by rw [HLl.out]; exact HT.out) (by rw [HLl.out]; exact HN.out) HC4'.out HD7c.out HC7.out HD7.out HE.out).mono ?_; rintro e w8 ⟨rfl, hb⟩; have HB8 : Aside0 (Below w.heap.size w w8) := ⟨below_step HB7.out hb⟩; have BK8 : Aside0 (w8.heap[w.heap.size]? = some (.cells #[.int .i64 a0_0, .slice A0_1 l0_1.length c0_1] 30 (0, 0))) := ⟨blk_below BK7.out hb⟩; have BW8 : Aside0 (w8.heap[w3.heap.size]? = some (.cells #[.int .i64 r1, .slice A3 G.length c3] 35 (0, 0))) := ⟨blk_below BW7.out hb⟩; have BX8 : Aside0 (w8.heap[w4.heap.size]? = some (.cells #[.int .i64 a0_0, .slice A4 L.length c4] 35 (0, 0))) := ⟨blk_below BX7.out hb⟩; have HC8 : Aside0 (Kd.C k25 w8 A4 F.length F) := ⟨Kd.C_below HC7.out hb⟩; have HX8 : Aside0 (Kd.R k25 25 w8 w.heap.size (fun k_ => w3.heap.size + 1 ≤ k_ ∧ k_ < w4.heap.size) (.slice A4 L.length c4) L) := ⟨Kd.R_below HX7.out hb⟩; have HW8 : Aside0 (Kd.R k25 25 w8 w.heap.size (fun k_ => k_ < w3.heap.size) (.slice A3 G.length c3) G) := ⟨Kd.R_below HW7.out hb⟩; have HG8 : Aside0 (Kd.R k25 25 w8 w.heap.size (fun k_ => w4.heap.size + 1 ≤ k_ ∧ k_ < w5.heap.size) (.slice A5 G.length c5) G) := ⟨Kd.R_below HG7.out hb⟩; have BG8 : Aside0 (w8.heap[w5.heap.size]? = some (.cells #[.int .i64 r1, .slice A5 G.length c5] 35 (0, 0))) := ⟨blk_below BG7.out hb⟩; have ck80 := (blk_cell BK8.out 0).trans rfl; have ck81 := (blk_cell BK8.out 1).trans rfl; have cx80 := (blk_cell BX8.out 0).trans rfl; have cx81 := (blk_cell BX8.out 1).trans rfl; clear hb))
  clear ck60 ck61 cx60 cx61 HB6'
  clear HB6 BK6 BW6 BX6 HC6 HX6 HW6 HG6 BG6
  clear ck70 ck71 cx70 cx71 HD7 HD7c
  clear HB7 BK7 BW7 BX7 HC7 HX7 HW7 HG7 BG7
  go_wp2_with fail
  have hn3 := HN3.out
  have hs34 := HS34.out
  have hs45 := HS45.out
  refine (laws_markPuzzle.calls k a0_0 _ _ L 101 kx Lx w w8 HB8.out HX8.out HMX.out).mono ?_
  rintro e w9 ⟨rfl, hx9, hb9, hk⟩
  have HB9 : Aside0 (Below w.heap.size w w9) := ⟨hb9⟩
  have BK9 : Aside0 (w9.heap[w.heap.size]? = some (.cells #[.int .i64 a0_0, .slice A0_1 l0_1.length c0_1] 30 (0, 0))) := ⟨blk_kept BK8.out hk (fun h_ => by omega)⟩
  have BW9 : Aside0 (w9.heap[w3.heap.size]? = some (.cells #[.int .i64 r1, .slice A3 G.length c3] 35 (0, 0))) := ⟨blk_kept BW8.out hk (fun h_ => by omega)⟩
  have BG9 : Aside0 (w9.heap[w5.heap.size]? = some (.cells #[.int .i64 r1, .slice A5 G.length c5] 35 (0, 0))) := ⟨blk_kept BG8.out hk (fun h_ => by omega)⟩
  have HW9 : Aside0 (Kd.R k25 25 w9 w.heap.size (fun k_ => k_ < w3.heap.size) (.slice A3 G.length c3) G) := ⟨Kd.R_kept HW8.out hk (fun k_ h1_ h2_ => by omega)⟩
  have HG9 : Aside0 (Kd.R k25 25 w9 w.heap.size (fun k_ => w4.heap.size + 1 ≤ k_ ∧ k_ < w5.heap.size) (.slice A5 G.length c5) G) := ⟨Kd.R_kept HG8.out hk (fun k_ h1_ h2_ => by omega)⟩
  clear HB8 BK8 BW8 BX8 HC8 HX8 HW8 HG8 BG8 hx9 hb9 hk ck80 ck81 cx80 cx81
  have cw90 := (blk_cell BW9.out 0).trans rfl
  have cw91 := (blk_cell BW9.out 1).trans rfl
  have cg90 := (blk_cell BG9.out 0).trans rfl
  have cg91 := (blk_cell BG9.out 1).trans rfl
  go_wp2_with fail
  refine (laws_eqPuzzle.calls k r1 _ _ G r1 _ _ G true _ (Kd.R_reads' HG9.out).2.2 (Kd.R_reads' HG9.out).2.1 (Kd.R_reads' HW9.out).2.2 (Kd.R_reads' HW9.out).2.1 HQ.out).mono ?_
  rintro e w10 ⟨rfl, hb⟩
  have HB10 : Aside0 (Below w.heap.size w w10) := ⟨below_step HB9.out hb⟩
  have BK10 : Aside0 (w10.heap[w.heap.size]? = some (.cells #[.int .i64 a0_0, .slice A0_1 l0_1.length c0_1] 30 (0, 0))) := ⟨blk_below BK9.out hb⟩
  have BW10 : Aside0 (w10.heap[w3.heap.size]? = some (.cells #[.int .i64 r1, .slice A3 G.length c3] 35 (0, 0))) := ⟨blk_below BW9.out hb⟩
  have BG10 : Aside0 (w10.heap[w5.heap.size]? = some (.cells #[.int .i64 r1, .slice A5 G.length c5] 35 (0, 0))) := ⟨blk_below BG9.out hb⟩
  have HW10 : Aside0 (Kd.R k25 25 w10 w.heap.size (fun k_ => k_ < w3.heap.size) (.slice A3 G.length c3) G) := ⟨Kd.R_below HW9.out hb⟩
  have HG10 : Aside0 (Kd.R k25 25 w10 w.heap.size (fun k_ => w4.heap.size + 1 ≤ k_ ∧ k_ < w5.heap.size) (.slice A5 G.length c5) G) := ⟨Kd.R_below HG9.out hb⟩
  clear HB9 BK9 BW9 BG9 HW9 HG9 hb cw90 cw91 cg90 cg91
  have cg100 := (blk_cell BG10.out 0).trans rfl
  have cg101 := (blk_cell BG10.out 1).trans rfl
  go_wp2_with fail
  refine (laws_markPuzzle.calls k r1 _ _ G 101 m Gm w w10 HB10.out HG10.out HMG.out).mono ?_
  rintro e w11 ⟨rfl, hx11, hb11, hk⟩
  have HB11 : Aside0 (Below w.heap.size w w11) := ⟨hb11⟩
  have BK11 : Aside0 (w11.heap[w.heap.size]? = some (.cells #[.int .i64 a0_0, .slice A0_1 l0_1.length c0_1] 30 (0, 0))) := ⟨blk_kept BK10.out hk (fun h_ => by omega)⟩
  have BW11 : Aside0 (w11.heap[w3.heap.size]? = some (.cells #[.int .i64 r1, .slice A3 G.length c3] 35 (0, 0))) := ⟨blk_kept BW10.out hk (fun h_ => by omega)⟩
  have BG11 : Aside0 (w11.heap[w5.heap.size]? = some (.cells #[.int .i64 r1, .slice A5 G.length c5] 35 (0, 0))) := ⟨blk_kept BG10.out hk (fun h_ => by omega)⟩
  have HW11 : Aside0 (Kd.R k25 25 w11 w.heap.size (fun k_ => k_ < w3.heap.size) (.slice A3 G.length c3) G) := ⟨Kd.R_kept HW10.out hk (fun k_ h1_ h2_ => by omega)⟩
  have HM11 : Aside0 (Kd.R k25 25 w11 w.heap.size (fun k_ => (w4.heap.size + 1 ≤ k_ ∧ k_ < w5.heap.size) ∨ w10.heap.size ≤ k_) (.slice A5 G.length c5) Gm) := ⟨hx11⟩
  clear HB10 BK10 BW10 BG10 HW10 HG10 hx11 hb11 hk cg100 cg101
  have cg110 := (blk_cell BG11.out 0).trans rfl
  have cg111 := (blk_cell BG11.out 1).trans rfl
  go_wp2_with fail
  have hcall := laws_heldPuzzle.calls k r1 A5 c5 Gm 101 m w11 (Kd.R_reads' (by have h_ := HM11.out; rw [← HGm.out] at h_; exact h_)).2.2 (Kd.R_reads' (by have h_ := HM11.out; rw [← HGm.out] at h_; exact h_)).2.1 HHG.out
  rw [HGm.out] at hcall
  refine hcall.mono ?_
  clear hcall
  rintro e w12 ⟨rfl, hb⟩
  have HB12 : Aside0 (Below w.heap.size w w12) := ⟨below_step HB11.out hb⟩
  have BK12 : Aside0 (w12.heap[w.heap.size]? = some (.cells #[.int .i64 a0_0, .slice A0_1 l0_1.length c0_1] 30 (0, 0))) := ⟨blk_below BK11.out hb⟩
  have BW12 : Aside0 (w12.heap[w3.heap.size]? = some (.cells #[.int .i64 r1, .slice A3 G.length c3] 35 (0, 0))) := ⟨blk_below BW11.out hb⟩
  have BG12 : Aside0 (w12.heap[w5.heap.size]? = some (.cells #[.int .i64 r1, .slice A5 G.length c5] 35 (0, 0))) := ⟨blk_below BG11.out hb⟩
  have HW12 : Aside0 (Kd.R k25 25 w12 w.heap.size (fun k_ => k_ < w3.heap.size) (.slice A3 G.length c3) G) := ⟨Kd.R_below HW11.out hb⟩
  have HM12 : Aside0 (Kd.R k25 25 w12 w.heap.size (fun k_ => (w4.heap.size + 1 ≤ k_ ∧ k_ < w5.heap.size) ∨ w10.heap.size ≤ k_) (.slice A5 G.length c5) Gm) := ⟨Kd.R_below HM11.out hb⟩
  clear HB11 BK11 BW11 BG11 HW11 HM11 hb cg110 cg111
  have ck120 := (blk_cell BK12.out 0).trans rfl
  have ck121 := (blk_cell BK12.out 1).trans rfl
  go_wp2_with fail
  refine (full_toPuzzle k a0_0 _ _ l0_1 true F' _ (Kd.C_below HR.out HB12.out) HC.out HF'.out).mono ?_
  rintro e w13 hp
  obtain ⟨A13, n13, c13, rfl, hR13, hn13, hb⟩ := hp
  have hq13 := Kd.R_reads' hR13
  have H13a : n13 = L.length ∧ Kd.C k25 w13 A13 L.length L ∧ L.length ≤ c13 := by
    by_cases h0 : l0_1.length = 0
    · have h_ := HF0.out h0
      subst h_
      have hLn : L = [] := List.eq_nil_of_length_eq_zero (HLl.out.trans h0)
      subst hLn
      refine ⟨?_, hq13.2.2, Nat.zero_le _⟩
      rcases hn13 with h_ | ⟨_, h2_⟩
      · rw [h_, h0]; rfl
      · exact h2_
    · have h_ := HF2.out h0
      subst h_
      refine ⟨?_, ?_, Nat.le_trans HL2.out hq13.2.1⟩
      · rcases hn13 with h_ | ⟨h_, h2_⟩
        · exact h_.trans HLl.out.symm
        · exact h2_.trans (by rw [← HL.out, h_]; simp)
      · have h_ := Hw.C_take hq13.2.2 L.length HL2.out
        rw [HLl.out, HL.out, ← HLl.out] at h_
        exact h_
  obtain ⟨rfl, h131, h132⟩ := H13a
  have HB13 : Aside0 (Below w.heap.size w w13) := ⟨below_step HB12.out hb⟩
  have BK13 : Aside0 (w13.heap[w.heap.size]? = some (.cells #[.int .i64 a0_0, .slice A0_1 l0_1.length c0_1] 30 (0, 0))) := ⟨blk_below BK12.out hb⟩
  have BW13 : Aside0 (w13.heap[w3.heap.size]? = some (.cells #[.int .i64 r1, .slice A3 G.length c3] 35 (0, 0))) := ⟨blk_below BW12.out hb⟩
  have BG13 : Aside0 (w13.heap[w5.heap.size]? = some (.cells #[.int .i64 r1, .slice A5 G.length c5] 35 (0, 0))) := ⟨blk_below BG12.out hb⟩
  have HW13 : Aside0 (Kd.R k25 25 w13 w.heap.size (fun k_ => k_ < w3.heap.size) (.slice A3 G.length c3) G) := ⟨Kd.R_below HW12.out hb⟩
  have HM13 : Aside0 (Kd.R k25 25 w13 w.heap.size (fun k_ => (w4.heap.size + 1 ≤ k_ ∧ k_ < w5.heap.size) ∨ w10.heap.size ≤ k_) (.slice A5 G.length c5) Gm) := ⟨Kd.R_below HM12.out hb⟩
  have H13a1 := Aside0.mk h131
  have H13a2 := Aside0.mk h132
  clear HB12 BK12 BW12 BG12 HW12 HM12 hb hR13 hn13 hq13 h131 h132 ck120 ck121
  go_wp2_with fail
  refine (impl_DropClue.calls a0_0 _ _ L a1 r1 G r2 w13 H13a1.out H13a2.out H2.out).mono ?_
  rintro e w14 ⟨v14, rfl, ho, hb⟩
  obtain ⟨A14, c14, rfl⟩ := Kd.R_slice ho
  have HB14_ : Aside0 (Below w.heap.size w w14) := ⟨below_step HB13.out hb⟩
  have BK14_ : Aside0 (w14.heap[w.heap.size]? = some (.cells #[.int .i64 a0_0, .slice A0_1 l0_1.length c0_1] 30 (0, 0))) := ⟨blk_below BK13.out hb⟩
  have BW14_ : Aside0 (w14.heap[w3.heap.size]? = some (.cells #[.int .i64 r1, .slice A3 G.length c3] 35 (0, 0))) := ⟨blk_below BW13.out hb⟩
  have BG14_ : Aside0 (w14.heap[w5.heap.size]? = some (.cells #[.int .i64 r1, .slice A5 G.length c5] 35 (0, 0))) := ⟨blk_below BG13.out hb⟩
  have HW14_ : Aside0 (Kd.R k25 25 w14 w.heap.size (fun k_ => k_ < w3.heap.size) (.slice A3 G.length c3) G) := ⟨Kd.R_below HW13.out hb⟩
  have HM14_ : Aside0 (Kd.R k25 25 w14 w.heap.size (fun k_ => (w4.heap.size + 1 ≤ k_ ∧ k_ < w5.heap.size) ∨ w10.heap.size ≤ k_) (.slice A5 G.length c5) Gm) := ⟨Kd.R_below HM13.out hb⟩
  have HB14 : Aside0 (Below w.heap.size w (w14.alloc (.cells #[.int .i64 r1, .slice A14 G.length c14] 35 (0, 0)))) := ⟨below_alloc HB14_.out _⟩
  have BK14 : Aside0 ((w14.alloc (.cells #[.int .i64 r1, .slice A14 G.length c14] 35 (0, 0))).heap[w.heap.size]? = some (.cells #[.int .i64 a0_0, .slice A0_1 l0_1.length c0_1] 30 (0, 0))) := ⟨blk_alloc BK14_.out _⟩
  have BW14 : Aside0 ((w14.alloc (.cells #[.int .i64 r1, .slice A14 G.length c14] 35 (0, 0))).heap[w3.heap.size]? = some (.cells #[.int .i64 r1, .slice A3 G.length c3] 35 (0, 0))) := ⟨blk_alloc BW14_.out _⟩
  have BG14 : Aside0 ((w14.alloc (.cells #[.int .i64 r1, .slice A14 G.length c14] 35 (0, 0))).heap[w5.heap.size]? = some (.cells #[.int .i64 r1, .slice A5 G.length c5] 35 (0, 0))) := ⟨blk_alloc BG14_.out _⟩
  have HW14 : Aside0 (Kd.R k25 25 (w14.alloc (.cells #[.int .i64 r1, .slice A14 G.length c14] 35 (0, 0))) w.heap.size (fun k_ => k_ < w3.heap.size) (.slice A3 G.length c3) G) := ⟨Kd.R_alloc HW14_.out _⟩
  have HM14 : Aside0 (Kd.R k25 25 (w14.alloc (.cells #[.int .i64 r1, .slice A14 G.length c14] 35 (0, 0))) w.heap.size (fun k_ => (w4.heap.size + 1 ≤ k_ ∧ k_ < w5.heap.size) ∨ w10.heap.size ≤ k_) (.slice A5 G.length c5) Gm) := ⟨Kd.R_alloc HM14_.out _⟩
  have HH14 := Aside0.mk (Kd.R_alloc ho (.cells #[.int .i64 r1, .slice A14 G.length c14] 35 (0, 0)))
  have BH14 : Aside0 ((w14.alloc (.cells #[.int .i64 r1, .slice A14 G.length c14] 35 (0, 0))).heap[w14.heap.size]? = some (.cells #[.int .i64 r1, .slice A14 G.length c14] 35 (0, 0))) := ⟨blk_new _ _⟩
  clear HB13 BK13 BW13 BG13 HW13 HM13 hb ho
  clear HB14_ BK14_ BW14_ BG14_ HW14_ HM14_
  have cw140 := (blk_cell BW14.out 0).trans rfl
  have cw141 := (blk_cell BW14.out 1).trans rfl
  have ch140 := (blk_cell BH14.out 0).trans rfl
  have ch141 := (blk_cell BH14.out 1).trans rfl
  go_wp2_with fail
  refine (laws_eqPuzzle.calls k r1 _ _ G r1 _ _ G true _ (Kd.R_reads' HH14.out).2.2 (Kd.R_reads' HH14.out).2.1 (Kd.R_reads' HW14.out).2.2 (Kd.R_reads' HW14.out).2.1 HQ.out).mono ?_
  rintro e w15 ⟨rfl, hb⟩
  have HB15 : Aside0 (Below w.heap.size w w15) := ⟨below_step HB14.out hb⟩
  have BK15 : Aside0 (w15.heap[w.heap.size]? = some (.cells #[.int .i64 a0_0, .slice A0_1 l0_1.length c0_1] 30 (0, 0))) := ⟨blk_below BK14.out hb⟩
  have BW15 : Aside0 (w15.heap[w3.heap.size]? = some (.cells #[.int .i64 r1, .slice A3 G.length c3] 35 (0, 0))) := ⟨blk_below BW14.out hb⟩
  have BG15 : Aside0 (w15.heap[w5.heap.size]? = some (.cells #[.int .i64 r1, .slice A5 G.length c5] 35 (0, 0))) := ⟨blk_below BG14.out hb⟩
  have HW15 : Aside0 (Kd.R k25 25 w15 w.heap.size (fun k_ => k_ < w3.heap.size) (.slice A3 G.length c3) G) := ⟨Kd.R_below HW14.out hb⟩
  have HM15 : Aside0 (Kd.R k25 25 w15 w.heap.size (fun k_ => (w4.heap.size + 1 ≤ k_ ∧ k_ < w5.heap.size) ∨ w10.heap.size ≤ k_) (.slice A5 G.length c5) Gm) := ⟨Kd.R_below HM14.out hb⟩
  clear HB14 BK14 BW14 BG14 HW14 HM14 HH14 BH14 hb cw140 cw141 ch140 ch141
  have cg150 := (blk_cell BG15.out 0).trans rfl
  have cg151 := (blk_cell BG15.out 1).trans rfl
  go_wp2_with fail
  have hcall := laws_heldPuzzle.calls k r1 A5 c5 Gm 101 m w15 (Kd.R_reads' (by have h_ := HM15.out; rw [← HGm.out] at h_; exact h_)).2.2 (Kd.R_reads' (by have h_ := HM15.out; rw [← HGm.out] at h_; exact h_)).2.1 HHG.out
  rw [HGm.out] at hcall
  refine hcall.mono ?_
  clear hcall
  rintro e w16 ⟨rfl, hb⟩
  have HB16 : Aside0 (Below w.heap.size w w16) := ⟨below_step HB15.out hb⟩
  clear hb
  go_wp2
  go_ret
  exact ⟨rfl, HB16.out⟩
set_option maxHeartbeats 8000000 in
set_option maxRecDepth 100000 in
theorem big_FnExactDropClue (a0_0 : Int) (A0_1 : Option Addr) (c0_1 : Nat) (l0_1 : List S23) (a1 : Int) (w : World) (hr0_1 : Kd.C k23 w A0_1 l0_1.length l0_1) (hc0_1 : l0_1.length ≤ c0_1)
    (s : Int) (hs : laws_szPuzzle.f a0_0 l0_1 1000000 = some s) (hs0 : s < 0) :
    Calls Try.prog 7 #[.agg #[.int .i64 a0_0, .slice A0_1 l0_1.length c0_1], .int .i64 a1] w fun e w' => e = .returned (.bool true) ∧ Below w.heap.size w w' := by
  have HR := Aside0.mk hr0_1
  have HC := Aside0.mk hc0_1
  have H0 := Aside0.mk hs
  have hs1 : decide (s < 0) = true := decide_eq_true hs0
  clear hr0_1 hc0_1 hs hs0
  go_enter Try.func7, Try.ntmps7
  go_wp2_with fail
  have HB : Aside0 (Below w.heap.size w (w.alloc (.cells #[.int .i64 a0_0, .slice A0_1 l0_1.length c0_1] 30 (0, 0)))) := ⟨below_alloc (Below.refl _ _) _⟩
  refine (laws_szPuzzle.calls a0_0 _ _ l0_1 _ _ _ (Kd.C_below HR.out HB.out) HC.out H0.out).mono ?_
  rintro e w1 ⟨rfl, hb⟩
  have HB1 : Aside0 (Below w.heap.size w w1) := ⟨below_step HB.out hb⟩
  clear HB hb
  go_wp2
  go_ret
  exact ⟨rfl, HB1.out⟩


end Go.Proofs.Ytbkplokoomodcaa.D2
