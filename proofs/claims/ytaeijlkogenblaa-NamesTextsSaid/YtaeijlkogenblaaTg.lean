/- NamesTexts: the walk. Conditions: the two scripts read as they must. -/
import Derived.Test.YtaeijlkogenblaaTf
import Derived.Test.YtaeijlkogenblaaNf
namespace Go.Proofs.Ytaeijlkogenblaa.Nt
open Go.RowKit Go.Shelf Go.Proofs.YtaeijlkogenblaaW.Raw Go.Proofs.YtaeijlkogenblaaW.PrintWords Go.Proofs.YtaeijlkogenblaaW.PrintLast Go.Proofs.Ytaeijlkogenblaa.IxS
open Go.Proofs.Ytaeijlkogenblaa.Nf (Stp kSt zSt cellsOf at_st)
set_option linter.unusedVariables false
set_option linter.unusedSimpArgs false
set_option maxRecDepth 100000 in
theorem step_else (base : Nat) (f : Nat → Prop) (xd xn xm p0 p1 : Int) (ss : ByteArray) (xf : Nat) (W : World) (bT g m : Nat) (v r kp we : Value) (xs : List ByteArray) (ks : List KE) (h : Tx base f W bT g m v r kp we xs ks) (h1 : xd ≠ 1) (h2 : xd ≠ 2) (h3 : xd ≠ 3) (h4 : xd ≠ 4) (h5 : xd ≠ 5) (h6 : xd ≠ 6) :
    Calls Try.prog 18 #[.pointer (some ⟨bT, 0, none⟩), .agg #[.int .i64 xd, .string ss, .float .f64 xf, .int .i64 p0, .int .i64 p1, .int .i64 xn, .int .i64 xm]] W fun e W' => e = .returned (.bool true) ∧ StepQ base f W bT g m ks.length W' := by
  have hd1 : (xd == 1) = false := beq_eq_false_iff_ne.2 h1
  have hd2 : (xd == 2) = false := beq_eq_false_iff_ne.2 h2
  have hd3 : (xd == 3) = false := beq_eq_false_iff_ne.2 h3
  have hd4 : (xd == 4) = false := beq_eq_false_iff_ne.2 h4
  have hd5 : (xd == 5) = false := beq_eq_false_iff_ne.2 h5
  have hd6 : (xd == 6) = false := beq_eq_false_iff_ne.2 h6
  have HH := Lib.hid h
  clear h h1 h2 h3 h4 h5 h6
  go_enter Try.func18, Try.ntmps18
  go_wp2_with (first | ((with_reducible refine gate_dst (N := 3) rfl ?_); refine box_event rfl (N := 3) rfl (cs := #[.int .i64 xd, .string ss, .float .f64 xf, .int .i64 p0, .int .i64 p1, .int .i64 xn, .int .i64 xm]) (t := 50) ?hr ?_; (case hr => first | (go_simp; done) | (go_simp; rfl)); intro b3 hg_ w1 hb3 hB1; clear hg_; have d0 := (blk_cell hb3 0).trans (Eq.refl (some (Value.int .i64 xd))); have HB1 := Lib.hid hB1; clear hb3 hB1))
  go_ret
  exact ⟨rfl, .same HH.out HB1.out⟩
theorem step_calls (base : Nat) (f : Nat → Prop) (xd xn xm p0 p1 : Int) (ss : ByteArray) (xf : Nat) (W : World) (bT g m : Nat) (v r kp we : Value) (xs : List ByteArray) (ks : List KE) (h : Tx base f W bT g m v r kp we xs ks) (hf : ∀ k, f k → k < W.heap.size) (hn : (Lit.int .i64 xn).wf = true) (hk : (ks.length + 1) * 24 ≤ 140737488355328) :
    Calls Try.prog 18 #[.pointer (some ⟨bT, 0, none⟩), .agg #[.int .i64 xd, .string ss, .float .f64 xf, .int .i64 p0, .int .i64 p1, .int .i64 xn, .int .i64 xm]] W fun e W' => e = .returned (.bool true) ∧ StepQ base f W bT g m ks.length W' := by
  by_cases h1 : xd = 1
  · rcases find_cases xs ss with hi | ⟨i, hi, hl⟩
    · by_cases hl : xs.length < 1048576
      · exact step_of_new base f xd xn xm p0 p1 ss xf W bT g m v r kp we xs ks h hf h1 hi hl
      · exact step_of_full base f xd xn xm p0 p1 ss xf W bT g m v r kp we xs ks h h1 hi (by omega)
    · exact step_of_known base f xd xn xm p0 p1 ss xf W bT g m v r kp we xs ks h h1 i hi hl
  by_cases h2 : xd = 2
  · rcases find_cases xs ss with hi | ⟨i, hi, hl⟩
    · exact step_find_none base f xd xn xm p0 p1 ss xf W bT g m v r kp we xs ks h h2 hi
    · exact step_find_known base f xd xn xm p0 p1 ss xf W bT g m v r kp we xs ks h h2 i hi hl
  by_cases h3 : xd = 3
  · by_cases hlo : xn < 1
    · exact step_at_low base f xd xn xm p0 p1 ss xf W bT g m v r kp we xs ks h h3 hlo
    · by_cases hhi : (xs.length : Int) < xn
      · exact step_at_high base f xd xn xm p0 p1 ss xf W bT g m v r kp we xs ks h h3 hhi
      · exact step_at_found base f xd xn xm p0 p1 ss xf W bT g m v r kp we xs ks h h3 (by omega) (by omega)
  by_cases h4 : xd = 4
  · exact step_len base f xd xn xm p0 p1 ss xf W bT g m v r kp we xs ks h h4
  by_cases h5 : xd = 5
  · exact step_all base f xd xn xm p0 p1 ss xf W bT g m v r kp we xs ks h hf hk h5
  by_cases h6 : xd = 6
  · rcases whichF_range xn ks.length with hw | ⟨q, hw, hq⟩
    · exact step_go_none base f xd xn xm p0 p1 ss xf W bT g m v r kp we xs ks h hn hk h6 hw
    · exact step_go_some base f xd xn xm p0 p1 ss xf W bT g m v r kp we xs ks h hn hk h6 q hw hq
  exact step_else base f xd xn xm p0 p1 ss xf W bT g m v r kp we xs ks h h1 h2 h3 h4 h5 h6
/-- One of the two. -/
def Half (base : Nat) (f : Nat → Prop) (W : World) (bT g m n : Nat) : Prop := ∃ v r kp we xs ks, Tx base f W bT g m v r kp we xs ks ∧ ks.length ≤ n
theorem Half.move {base : Nat} {f : Nat → Prop} {W W1 : World} {bT g m n n' : Nat} (h : Half base f W bT g m n) (hm : ∀ k, f k → k < W.heap.size → W1.heap[k]? = W.heap[k]?) (hn : n ≤ n') : Half base f W1 bT g m n' := by
  obtain ⟨v, r, kp, we, xs, ks, h1, h2⟩ := h
  exact ⟨v, r, kp, we, xs, ks, h1.move hm, Nat.le_trans h2 hn⟩
theorem Half.step {base : Nat} {f : Nat → Prop} {W : World} {bT g m n : Nat} (h : Half base f W bT g m n) (hf : ∀ k, f k → k < W.heap.size) (xd xn xm p0 p1 : Int) (ss : ByteArray) (xf : Nat) (hn : (Lit.int .i64 xn).wf = true) (hk : (n + 1) * 24 ≤ 140737488355328) :
    Calls Try.prog 18 #[.pointer (some ⟨bT, 0, none⟩), .agg #[.int .i64 xd, .string ss, .float .f64 xf, .int .i64 p0, .int .i64 p1, .int .i64 xn, .int .i64 xm]] W fun e W' => e = .returned (.bool true) ∧ ∃ f', Half base f' W' bT g m (n + 1) ∧ (∀ k, f' k → f k ∨ W.heap.size ≤ k) ∧ (∀ k, f' k → k < W'.heap.size) ∧ Kept W W' f ∧ Below base W W' := by
  obtain ⟨v, r, kp, we, xs, ks, h1, h2⟩ := h
  refine (step_calls base f xd xn xm p0 p1 ss xf W bT g m v r kp we xs ks h1 hf hn (by omega)).mono ?_
  rintro e W' ⟨rfl, f', v', r', kp', we', xs', ks', h3, h4, h5, h6, h7⟩
  exact ⟨rfl, _, ⟨v', r', kp', we', xs', ks', h3.bound, by omega⟩, fun k hk => h4 k hk.1, fun k hk => hk.2, h5, h6⟩
/-- Both. -/
def Main (w wr : World) (bA gA mA bB gB mB nA nB : Nat) : Prop := ∃ fa fb, Half w.heap.size fa wr bA gA mA nA ∧ Half w.heap.size fb wr bB gB mB nB ∧ (∀ k, fa k → fb k → False) ∧ (∀ k, fa k → k < wr.heap.size) ∧ (∀ k, fb k → k < wr.heap.size) ∧ Below w.heap.size w wr
theorem Main.left {w wr : World} {bA gA mA bB gB mB nA nB : Nat} (h : Main w wr bA gA mA bB gB mB nA nB) (xd xn xm p0 p1 : Int) (ss : ByteArray) (xf : Nat) (hn : (Lit.int .i64 xn).wf = true) (hk : (nA + 1) * 24 ≤ 140737488355328) :
    Calls Try.prog 18 #[.pointer (some ⟨bA, 0, none⟩), .agg #[.int .i64 xd, .string ss, .float .f64 xf, .int .i64 p0, .int .i64 p1, .int .i64 xn, .int .i64 xm]] wr fun e W' => e = .returned (.bool true) ∧ Main w W' bA gA mA bB gB mB (nA + 1) nB := by
  obtain ⟨fa, fb, h1, h2, h3, h4, h5, h6⟩ := h
  refine (h1.step h4 xd xn xm p0 p1 ss xf hn hk).mono ?_
  rintro e W' ⟨rfl, f', k1, k2, k3, k4, k5⟩
  exact ⟨rfl, f', fb, k1, h2.move (fun k hk hlt => k4.2 k hlt (fun h => h3 k h hk)) (Nat.le_refl _), fun k ha hb => (k2 k ha).elim (fun h => h3 k h hb) (fun h => by have := h5 k hb; omega), k3, fun k hk => Nat.lt_of_lt_of_le (h5 k hk) k4.1, h6.trans k5⟩
theorem Main.swap {w wr : World} {bA gA mA bB gB mB nA nB : Nat} (h : Main w wr bA gA mA bB gB mB nA nB) : Main w wr bB gB mB bA gA mA nB nA := by
  obtain ⟨fa, fb, h1, h2, h3, h4, h5, h6⟩ := h
  exact ⟨fb, fa, h2, h1, fun k ha hb => h3 k hb ha, h5, h4, h6⟩
theorem Main.right {w wr : World} {bA gA mA bB gB mB nA nB : Nat} (h : Main w wr bA gA mA bB gB mB nA nB) (xd xn xm p0 p1 : Int) (ss : ByteArray) (xf : Nat) (hn : (Lit.int .i64 xn).wf = true) (hk : (nB + 1) * 24 ≤ 140737488355328) :
    Calls Try.prog 18 #[.pointer (some ⟨bB, 0, none⟩), .agg #[.int .i64 xd, .string ss, .float .f64 xf, .int .i64 p0, .int .i64 p1, .int .i64 xn, .int .i64 xm]] wr fun e W' => e = .returned (.bool true) ∧ Main w W' bA gA mA bB gB mB nA (nB + 1) :=
  (h.swap.left xd xn xm p0 p1 ss xf hn hk).mono fun e W' ⟨he, hm⟩ => ⟨he, hm.swap⟩
theorem Main.le {w wr : World} {bA gA mA bB gB mB nA nB nA' nB' : Nat} (h : Main w wr bA gA mA bB gB mB nA nB) (ha : nA ≤ nA') (hb : nB ≤ nB') : Main w wr bA gA mA bB gB mB nA' nB' := by
  obtain ⟨fa, fb, h1, h2, h3, h4, h5, h6⟩ := h
  exact ⟨fa, fb, h1.move (fun _ _ _ => rfl) ha, h2.move (fun _ _ _ => rfl) hb, h3, h4, h5, h6⟩
/-- Two new ones. -/
theorem main_new {w w1 w2 w3 w4 : World} {gA mA bA gB mB bB : Nat} (i1 : Idx w1 w.heap.size gA mA (.slice none 0 0) []) (b1 : Below w.heap.size w w1) (hbA : bA = w1.heap.size) (k1 : w2.heap[bA]? = some (.cells #[.pointer (some ⟨gA, 0, none⟩), .slice none 0 0, .slice none 0 0, .slice none 0 0] 45 (0, 0))) (b2 : Below w1.heap.size w1 w2)
    (i2 : Idx w3 w2.heap.size gB mB (.slice none 0 0) []) (b3 : Below w2.heap.size w2 w3) (hbB : bB = w3.heap.size) (k2 : w4.heap[bB]? = some (.cells #[.pointer (some ⟨gB, 0, none⟩), .slice none 0 0, .slice none 0 0, .slice none 0 0] 45 (0, 0))) (b4 : Below w3.heap.size w3 w4) : Main w w4 bA gA mA bB gB mB 0 0 := by
  have s1 := b1.size
  have s2 := b2.size
  have s3 := b3.size
  have s4 := b4.size
  have l1 := lt_of_get i1.blk
  have l2 := i1.raw.lt
  have l3 := lt_of_get k1
  have l4 := lt_of_get i2.blk
  have l5 := i2.raw.lt
  have l6 := lt_of_get k2
  have b14 : Below w1.heap.size w1 w4 := b2.trans ((b3.mono s2).trans (b4.mono (Nat.le_trans s2 s3)))
  have b24 : Below w2.heap.size w2 w4 := b3.trans (b4.mono s3)
  have nn : ∀ k, (Value.slice none 0 0).ownBlock = some k → False := fun k hk => by simp [Value.ownBlock] at hk
  refine ⟨fun k => k = bA ∨ k = gA ∨ k = mA, fun k => k = bB ∨ k = gB ∨ k = mB, ?_, ?_, ?_, ?_, ?_, b1.trans (b14.mono s1)⟩
  · exact ⟨_, _, _, _, [], [], ⟨(b24.block _ l3).trans k1, idx_move i1 (fun i hi _ => b14.block i hi), own_nil _ _ _ _, own_nil _ _ _ _, own_nil _ _ _ _, fun e he => (by cases he), fun k hk => (nn k hk).elim, by omega, by simp, .inl rfl, .inr (.inl rfl), .inr (.inr rfl), fun k hk => (nn k hk).elim, fun k hk => (nn k hk).elim, fun k hk => (nn k hk).elim, fun k hk => (nn k hk).elim⟩, Nat.le_refl _⟩
  · exact ⟨_, _, _, _, [], [], ⟨k2, ⟨(b4.block _ l4).trans i2.blk, i2.raw.move (b4.block _ l5), own_nil _ _ _ _, by have := i2.hg; omega, by have := i2.hm; omega⟩, own_nil _ _ _ _, own_nil _ _ _ _, own_nil _ _ _ _, fun e he => (by cases he), fun k hk => (nn k hk).elim, by omega, by simp, .inl rfl, .inr (.inl rfl), .inr (.inr rfl), fun k hk => (nn k hk).elim, fun k hk => (nn k hk).elim, fun k hk => (nn k hk).elim, fun k hk => (nn k hk).elim⟩, Nat.le_refl _⟩
  · have := i2.hg
    have := i2.hm
    rintro k (rfl | rfl | rfl) (e | e | e) <;> omega
  · rintro k (rfl | rfl | rfl) <;> omega
  · rintro k (rfl | rfl | rfl) <;> omega
end Go.Proofs.Ytaeijlkogenblaa.Nt
