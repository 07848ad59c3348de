/- '[]byte(s)': a block of bytes, whatever its mark; pick, told without a draw; fit. Conditions: each theorem's own. -/
import Derived.Test.YtcoodlncjnekoaaTu
import Derived.Test.YtcoodlncjnekoaaJn
import Derived.Test.YtcoodlncjnekoaaF6
import Derived.Test.YtcoodlncjnekoaaFit
import Derived.Lib.Hide
import Derived.Laws.IdiomStrings
namespace Go.Proofs.Ytcoodlncjnekoaa.F
open Go.RowKit Go.Proofs.YtcoodlncjnekoaaW.PrintWords Go.Proofs.YtcoodlncjnekoaaW.PrintLast Go.Proofs.YtcoodlncjnekoaaW.PrintMore Go.Proofs.JournalPlain
set_option linter.unusedVariables false
def fitV (v : Int) : Int := (if Int.tmod v 2147483647 < 0 then -(Int.tmod v 2147483647) else Int.tmod v 2147483647) + 1
def fitT (t : ByteArray) : ByteArray := if (t.size : Int) > 65536 then t.extract 0 65536 else t
theorem fit_fit (v : Int) (t : ByteArray) : fit_ (fitV v) (fitT t) := by
  have h1 : -2147483647 < Int.tmod v 2147483647 := Int.lt_tmod_of_pos _ (by decide)
  have h2 : Int.tmod v 2147483647 < 2147483647 := Int.tmod_lt_of_pos _ (by decide)
  unfold fit_ fitV fitT
  refine ⟨by split <;> omega, by split <;> omega, ?_⟩
  split
  · rw [size_extract]; omega
  · omega
theorem fit_f (v : Int) (t : ByteArray) : gatehouselaw22_fit.f v t = some (fitV v, fitT t) := by
  have h1 : -2147483647 < Int.tmod v 2147483647 := Int.lt_tmod_of_pos _ (by decide)
  have h2 : Int.tmod v 2147483647 < 2147483647 := Int.tmod_lt_of_pos _ (by decide)
  unfold gatehouselaw22_fit.f fitV fitT
  by_cases c1 : Int.tmod v 2147483647 < 0 <;> by_cases c2 : (t.size : Int) > 65536
  · rw [if_pos c1, if_pos c2, if_pos (by decide), if_pos (by omega), if_pos c1, if_pos c2, w64 (-_) (by omega) (by omega), w64 _ (by omega) (by omega)]
  · rw [if_pos c1, if_neg c2, if_pos c1, if_neg c2, w64 (-_) (by omega) (by omega), w64 _ (by omega) (by omega)]
  · rw [if_neg c1, if_pos c2, if_pos (by decide), if_pos (by omega), if_neg c1, if_pos c2, w64 _ (by omega) (by omega)]
  · rw [if_neg c1, if_neg c2, if_neg c1, if_neg c2, w64 _ (by omega) (by omega)]
theorem pick_f (a n : Int) (h : 1 ≤ n) (hn : n ≤ 9223372036854775807) : ∃ r, gatehouselaw22_pick.f a n = some r ∧ 0 ≤ r ∧ r < n := by
  have h1 : -n < Int.tmod a n := Int.lt_tmod_of_pos _ (by omega)
  have h2 : Int.tmod a n < n := Int.tmod_lt_of_pos _ (by omega)
  unfold gatehouselaw22_pick.f
  rw [if_neg (by omega)]
  by_cases c : Int.tmod a n < 0
  · rw [if_pos c, w64 _ (by omega) (by omega)]
    exact ⟨_, rfl, by omega, by omega⟩
  · rw [if_neg c]
    exact ⟨_, rfl, by omega, by omega⟩
theorem pick_same (a n r : Int) (w : World) (h1 : 1 ≤ n) (hn : n ≤ 1000000000) (h : gatehouselaw22_pick.f a n = some r) :
    Calls Try.prog 36 #[.int .i64 a, .int .i64 n] w fun e w' => e = .returned (.int .i64 r) ∧ w' = w := by
  unfold gatehouselaw22_pick.f at h
  rw [if_neg (by omega)] at h
  have hz : (n == 0) = false := by rw [beq_eq_false_iff_ne]; omega
  have hz2 : n ≠ 0 := by omega
  by_cases c : Int.tmod a n < 0
  · rw [if_pos c] at h
    injection h with h
    subst h
    have cd := decide_eq_true c
    clear c
    go_enter Try.func36, Try.ntmps36
    go_wp2
    go_ret
    exact ⟨rfl, rfl⟩
  · rw [if_neg c] at h
    injection h with h
    subst h
    have cd := decide_eq_false c
    clear c
    go_enter Try.func36, Try.ntmps36
    go_wp2
    go_ret
    exact ⟨rfl, rfl⟩
theorem cells23 {w2 w : World} {g : Nat} {x : Int} {y : ByteArray} (h : w2.heap[g]? = some (.cells #[.int .i64 x, .string y] 23 (0, 0))) (hb : Below w2.heap.size w2 w) : w.cell? ⟨g, 0, none⟩ = some (.int .i64 x) ∧ w.cell? ⟨g, 1, none⟩ = some (.string y) :=
  ⟨(blk_cell (blk_below h hb) 0).trans rfl, (blk_cell (blk_below h hb) 1).trans rfl⟩
/-- A block that begins with these bytes. -/
def Blk (w : World) (g : Nat) (xs : List Int) : Prop := ∃ cs lo hi, w.heap[g]? = some (.cells cs 5 (lo, hi)) ∧ xs.length ≤ lo ∧ ∀ i, i < xs.length → cs[i]? = some (Value.int .u8 (xs.getD i 0))
theorem Blk.cell {w : World} {g : Nat} {xs : List Int} (h : Blk w g xs) (i : Nat) (hi : i < xs.length) : w.cell? ⟨g, i, none⟩ = some (.int .u8 (xs.getD i 0)) ∧ w.frozen? ⟨g, i, none⟩ = false := by
  obtain ⟨cs, lo, hi', hb, hl, hc⟩ := h
  constructor
  · unfold World.cell?
    rw [hb]
    exact hc i hi
  · unfold World.frozen?
    rw [hb]
    simp
    omega
theorem Blk.lt {w : World} {g : Nat} {xs : List Int} (h : Blk w g xs) : g < w.heap.size := by
  obtain ⟨cs, lo, hi', hb, _, _⟩ := h
  exact (Array.getElem?_eq_some_iff.1 hb).1
theorem Blk.below {w w' : World} {g : Nat} {xs : List Int} (h : Blk w g xs) (hb : Below w.heap.size w w') : Blk w' g xs := by
  obtain ⟨cs, lo, hi', h1, hl, hc⟩ := h
  exact ⟨cs, lo, hi', (hb.block g (Array.getElem?_eq_some_iff.1 h1).1).trans h1, hl, hc⟩
theorem Blk.set {w : World} {g : Nat} {xs : List Int} (h : Blk w g xs) (k : Nat) (y : Int) : Blk (w.setCell ⟨g, k, none⟩ (.int .u8 y)) g (xs.set k y) := by
  obtain ⟨cs, lo, hi', h1, hl, hc⟩ := h
  refine ⟨cs.setIfInBounds k (.int .u8 y), lo, hi', ?_, by rw [List.length_set]; exact hl, ?_⟩
  · show (w.heap.modify g _)[g]? = _
    rw [Array.getElem?_modify, if_pos rfl, h1]
    rfl
  · intro i hi
    rw [List.length_set] at hi
    have h2 := hc i hi
    rw [Array.getElem?_setIfInBounds]
    by_cases e : k = i
    · subst e
      rw [if_pos rfl, if_pos (Array.getElem?_eq_some_iff.1 h2).1]
      simp [List.getD_eq_getElem?_getD, hi]
    · rw [if_neg e, h2]
      simp [List.getD_eq_getElem?_getD, List.getElem?_set_ne e]
theorem Blk.str {w : World} {g : Nat} {xs : List Int} (h : Blk w g xs) (c : Nat) (hm : xs.length ≤ 9223372036854775807) : (convert 62 9 (.slice (some ⟨g, 0, none⟩) xs.length c)).run Try.prog w = .ok (.string (strOfNums xs)) w := by
  refine string_of_reads Try.underlying62 Try.underlying5 Try.underlying9 ⟨rfl, hm, fun _ => ⟨_, rfl, fun j hj => ?_⟩⟩
  have := (h.cell j hj).1
  by_cases e : j = 0
  · subst e
    simpa [Addr.add] using this
  · simpa [Addr.add, e] using this
theorem ev50 {ops : Array Oper} {rest : List Oper} {o : Oper} {a : Act} {Q : Exit → Act → World → Prop} {W : World} (ho : o.op = .convert 9 62 (.tmp 49)) (hg : o.guard = none) (s : ByteArray) (hx : a.eval (.tmp 49) = .string s)
    (h : ∀ g c w1, W.heap.size ≤ g → Blk w1 g (bytesOf s) → Below W.heap.size W w1 → s.size ≤ c → wpList Try.prog ops Q rest (a.put o.dst (.slice (some ⟨g, 0, none⟩) s.size c)) w1) : wpList Try.prog ops Q (o :: rest) a W := by
  have hr := run_bytes_of_string (P := Try.prog) W 9 62 5 s Try.underlying9 Try.underlying62 Try.underlying5
  have hc : s.size ≤ grownCap W s.size 0 5 := grownCap_ge W s.size 0 5
  generalize grownCap W s.size 0 5 = c at hr hc
  have hsz : s.size ≤ (bytesRow s c).size := by unfold bytesRow; simp
  obtain ⟨W1, hW1⟩ : ∃ W1, W1 = W.drew.alloc (.cells (bytesRow s c) 5 ((bytesRow s c).size, (bytesRow s c).size + 1)) := ⟨_, rfl⟩
  rw [← hW1] at hr
  have hB : Blk W1 W.heap.size (bytesOf s) := by
    refine ⟨bytesRow s c, (bytesRow s c).size, (bytesRow s c).size + 1, ?_, by rw [bytesOf_length]; exact hsz, ?_⟩
    · rw [hW1]
      show (W.heap.push _)[W.heap.size]? = _
      simp
    · intro i hi
      rw [bytesOf_length] at hi
      rw [bytesRow_at s c i hi]
      unfold bytesOf
      have e : s.data[i]? = some (s.data[i]'hi) := Array.getElem?_eq_getElem hi
      simp [List.getD_eq_getElem?_getD, e]
  have hBe : Below W.heap.size W W1 := by
    rw [hW1]
    exact (Below.refl W.heap.size W).drew.alloc (Nat.le_refl _) _
  refine Kd.event_run hg ?_ (h _ _ _ (Nat.le_refl _) hB hBe hc)
  simp only [execOp, ho, hx, Sem.run_bind, hr, Result.andThen_ok, Sem.run_pure]
/-! what is read -/
theorem wrap_u8 (n : Nat) (h : n < 2 ^ 8) : IntKind.u8.wrap (n : Int) = (n : Int) := by
  simp only [IntKind.wrap, IntKind.bits, IntKind.signed]
  simp
  omega
theorem xor8 (x y : Nat) (hx : x < 256) (hy : y < 256) : Go.bits .xor .u8 (x : Int) (y : Int) = ((x ^^^ y : Nat) : Int) := by
  have h := Nat.xor_lt_two_pow (n := 8) hx hy
  show IntKind.u8.wrap (((BitVec.ofInt 8 (x : Int) ^^^ BitVec.ofInt 8 (y : Int)).toNat : Nat) : Int) = _
  rw [BitVec.ofInt_natCast, BitVec.ofInt_natCast, BitVec.toNat_xor, BitVec.toNat_ofNat, BitVec.toNat_ofNat, Nat.mod_eq_of_lt (show x < 2 ^ 8 by omega), Nat.mod_eq_of_lt (show y < 2 ^ 8 by omega)]
  exact wrap_u8 _ h
theorem xor8_ne (x d : Nat) (hx : x < 256) (hd : d < 255) : (0 ≤ Go.bits .xor .u8 (x : Int) (1 + (d : Int)) ∧ Go.bits .xor .u8 (x : Int) (1 + (d : Int)) < 256) ∧ (x : Int) ≠ Go.bits .xor .u8 (x : Int) (1 + (d : Int)) := by
  rw [show (1 : Int) + (d : Int) = ((1 + d : Nat) : Int) by omega, xor8 _ _ hx (by omega)]
  have h := Nat.xor_lt_two_pow (n := 8) hx (show 1 + d < 2 ^ 8 by omega)
  refine ⟨by omega, fun he => ?_⟩
  have h2 : x = x ^^^ (1 + d) := by omega
  have h3 : (1 + d) ^^^ x = 0 ^^^ x := by rw [Nat.xor_comm, ← h2, Nat.zero_xor]
  have := xor_cancel h3
  omega
theorem extract_all (s : ByteArray) : s.extract 0 s.size = s := by
  apply bytesOf_inj
  rw [bytesOf_extract, List.drop_zero, List.take_of_length_le (by rw [bytesOf_length]; exact Nat.le_refl _)]
theorem reads_one (x0 : Int) (y0 : ByteArray) (x1 : Int) (y1 : ByteArray) (h0 : fit_ x0 y0) (h1 : fit_ x1 y1) (k : Nat) (hk : k < (recL x1 y1).length) (Y : Int) (hY : 0 ≤ Y ∧ Y < 256) (hne : (recL x1 y1)[k] ≠ Y) (T more : ByteArray) (hT : bytesOf T = (recL x1 y1).set k Y) (hm : more.size ≤ 140737488351232) :
    journal_Read.f 700002 ((frameB x0 y0 ++ T) ++ more) = some ([⟨x0, y0⟩], ((frameB x0 y0).size : Int)) ∧ journal_Read.f 700002 T = some (([] : List S23), 0) := by
  have b0 := h0.2.2
  have b1 := h1.2.2
  have sT : T.size = y1.size + 17 := by rw [← bytesOf_length, hT, List.length_set, recL_length]
  have s0 := frameB_size x0 y0
  constructor
  · obtain ⟨X, hX⟩ : ∃ X, X = (frameB x0 y0 ++ T) ++ more := ⟨_, rfl⟩
    rw [← hX]
    have sX : X.size = (frameB x0 y0).size + T.size + more.size := by rw [hX, ByteArray.size_append, ByteArray.size_append]
    have bX : bytesOf X = recL x0 y0 ++ (bytesOf T ++ bytesOf more) := by rw [hX, bytesOf_append, bytesOf_append, bytesOf_frameB, List.append_assoc]
    have e1 := Read_step 700001 X (by omega) [] 0 x0 y0 ⟨h0, bytesOf T ++ bytesOf more, by rw [extract_all, bX]⟩ (by omega) (by decide) (by decide)
    have e2 := Read_end 700000 X (by omega) [⟨x0, y0⟩] (0 + (y0.size + 17)) (turned_none x1 y1 h1 k hk Y hY hne _ (bytesOf more) (by rw [bytesOf_extract, List.take_of_length_le (by rw [bytesOf_length]; exact Nat.le_refl _), bX, Nat.zero_add, ← recL_length x0 y0, List.drop_left, hT])) (by omega) (by decide)
    show journal_Read.l0 (700001 + 1) X [] ((0 : Nat) : Int) = _
    rw [e1]
    show journal_Read.l0 (700000 + 1) X [⟨x0, y0⟩] _ = _
    rw [e2]
    congr 2
    omega
  · exact Read_end 700001 T (by omega) [] 0 (turned_none x1 y1 h1 k hk Y hY hne _ [] (by rw [extract_all, hT, List.append_nil])) (by omega) (by decide)
theorem same_l0 (xs : List S23) (hl : xs.length ≤ 9223372036854775806) : ∀ m, m ≤ xs.length → ∀ k, gatehouselaw22_same.l0 (k + 1 + m) xs xs ((xs.length - m : Nat) : Int) = some true := by
  intro m
  induction m with
  | zero =>
    intro _ k
    rw [Nat.add_zero, gatehouselaw22_same.l0, if_neg (by omega)]
  | succ m ih =>
    intro hm k
    rw [show k + 1 + (m + 1) = (k + 1 + m) + 1 by omega, gatehouselaw22_same.l0, if_pos (by omega), if_pos (by omega), if_pos (by omega), if_neg (by simp), w64 _ (by omega) (by omega), show ((xs.length - (m + 1) : Nat) : Int) + 1 = ((xs.length - m : Nat) : Int) by omega]
    exact ih (by omega) k
theorem same_refl (xs : List S23) (hl : xs.length ≤ 9223372036854775806) (k : Nat) (hk : xs.length + 1 ≤ k) : gatehouselaw22_same.f k xs xs = some true := by
  obtain ⟨j, rfl⟩ := Nat.exists_eq_add_of_le hk
  have h := same_l0 xs hl xs.length (Nat.le_refl _) j
  rw [Nat.sub_self] at h
  unfold gatehouselaw22_same.f
  rw [if_pos rfl, show xs.length + 1 + j = j + 1 + xs.length by omega]
  exact h
theorem lit23 (W : World) (x0 : Int) (y0 : ByteArray) : Kd.R k23 23 (W.alloc (.cells #[.int .i64 x0, .string y0] 23)) W.heap.size (fun _ => True) (.slice (some ⟨W.heap.size, 0, none⟩) 1 1) [⟨x0, y0⟩] := by
  refine ⟨fun k hk => trivial, [.int .i64 x0, .string y0], ?_, ?_⟩
  · have := World.ownsRow_lit (base := W.heap.size) (e := 23) (size := k23.sz) W #[.int .i64 x0, .string y0] 1 (Nat.le_refl _) (by simp [maxLen]) rfl
    simpa using this
  · exact Reps.c2 (k23_mkM _ _ _ ⟨x0, y0⟩) (Reps.none _ _)
end Go.Proofs.Ytcoodlncjnekoaa.F
