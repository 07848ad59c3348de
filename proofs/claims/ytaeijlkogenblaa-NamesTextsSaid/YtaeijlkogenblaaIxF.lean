/- An index of IxF: what NewIndex, Of, Find, At and Len do, told by the things that have numbers, in their order. Conditions: each theorem's own. -/
import Derived.Test.YtaeijlkogenblaaWRaw
import Derived.Test.YtaeijlkogenblaaWKept
import Derived.Test.YtaeijlkogenblaaProg
import Derived.Outline
import Derived.Lib.Hide
import Derived.Deep.DeepMust
import Derived.RegionTactic
import Derived.ChangeAlike
import Derived.Deep.QuietTactic
import Derived.BigQuiet
import Derived.StillTailTactics
namespace Go.Proofs.Ytaeijlkogenblaa.IxF
open Go.RowKit Go.Proofs.YtaeijlkogenblaaW.Raw Go.Proofs.YtaeijlkogenblaaW.PrintWords
set_option linter.unusedVariables false

def eqk (a b : Nat) : Bool := Op.floatEq .f64 a b
def vals (n : Nat) : List Value := (List.range n).map fun (i : Nat) => .int .i64 ((i : Int) + 1)
structure Idx (w : World) (base g m : Nat) (v : Value) (xs : List Nat) : Prop where
  blk : w.heap[g]? = some (.cells #[.map (some m), v] 89 (0, 0))
  raw : IsRaw w m (xs.map (Value.float .f64)) (vals xs.length)
  row : w.ownsRow base 47 1 v xs.length (encs (Value.float .f64) xs)
  hg : base ≤ g
  hm : base ≤ m

theorem key : Key Try.prog 47 (Value.float .f64) eqk := key_float Try.underlying47
theorem zero3 (w : World) : (zeroValue 3).run Try.prog w = .ok (.int .i64 0) w := by kernel_rfl

theorem cell_of {w : World} {g t : Nat} {cs : Array Value} (h : w.heap[g]? = some (.cells cs t (0, 0))) (i : Nat) : w.cell? ⟨g, i, none⟩ = cs[i]? ∧ w.frozen? ⟨g, i, none⟩ = false := by
  simp [World.cell?, World.frozen?, h]

theorem info47 : (Try.prog.info? 47).map (fun i => (i.zero, i.size, i.bytes)) = some (some (.float .f64 0), 1, 8) := by kernel_rfl
theorem heap_new (w : World) (o : Obj) : (w.alloc o).heap[w.heap.size]? = some o := by show (w.heap.push o)[w.heap.size]? = some o; simp
theorem heap_old (w : World) (o : Obj) {i : Nat} (h : i < w.heap.size) : (w.alloc o).heap[i]? = w.heap[i]? := by show (w.heap.push o)[i]? = _; rw [Array.getElem?_push]; simp; omega
theorem size_new (w : World) (o : Obj) : (w.alloc o).heap.size = w.heap.size + 1 := Array.size_push ..

theorem set_other {w : World} {m i : Nat} {o : Obj} (h : i ≠ m) : (ChangeMaps.setBlock w m o).heap[i]? = w.heap[i]? := by
  show (w.heap.setIfInBounds m o)[i]? = _
  rw [Array.getElem?_setIfInBounds, if_neg (Ne.symm h)]
theorem set_size {w : World} {m : Nat} {o : Obj} : (ChangeMaps.setBlock w m o).heap.size = w.heap.size := by
  show (w.heap.setIfInBounds m o).size = _
  simp
theorem raw_ne {w : World} {m base n size : Nat} {e : TypeId} {ks vs xs : List Value} {v : Value} (h : IsRaw w m ks vs) (ho : w.ownsRow base e size v n xs) : some m ≠ v.ownBlock := by
  obtain ⟨es, cl, hb, _⟩ := h
  rcases ho.2 with ⟨rfl, _⟩ | ⟨g', cap, cur, rfl, hg, hh, _⟩
  · simp [Value.ownBlock]
  · intro he
    have : m = g' := by simpa [Value.ownBlock] using he
    subst this
    rw [hb] at hh
    cases hh
theorem raw_ne_blk {w : World} {m g t : Nat} {ks vs : List Value} {cs : Array Value} (h : IsRaw w m ks vs) (hb : w.heap[g]? = some (.cells cs t (0, 0))) : m ≠ g := by
  obtain ⟨es, cl, hm, _⟩ := h
  rintro rfl
  rw [hm] at hb
  cases hb
theorem below_set_map {base m : Nat} {w W : World} {es : Array MapEntry} {c : Nat} (h : Below base w W) (hm : base ≤ m) : Below base w (ChangeMaps.setBlock W m (.map es c)) :=
  ⟨h.os, h.tape, h.output, by rw [set_size]; exact h.size, fun i hi => (set_other (by omega)).trans (h.block i hi)⟩
theorem kept_set_map {m : Nat} {w W : World} {es : Array MapEntry} {c : Nat} {S : Nat → Prop} (h : Kept w W S) (hm : S m) : Kept w (ChangeMaps.setBlock W m (.map es c)) S :=
  ⟨by rw [set_size]; exact h.1, fun i hi hn => (set_other (fun e => hn (by rw [e]; exact hm))).trans (h.2 i hi hn)⟩
theorem own_heap {w W : World} {base n size : Nat} {e : TypeId} {v : Value} {xs : List Value} (h : w.ownsRow base e size v n xs) (hh : ∀ k, v.ownBlock = some k → W.heap[k]? = w.heap[k]?) : W.ownsRow base e size v n xs := own_move h hh
theorem new_end (k : Nat) (xs : List Nat) (base g m : Nat) (A : Option Addr) (c : Nat) (w : World) (h : Idx w base g m (.slice A xs.length c) xs) (w1 : World) (A1 : Option Addr) (c1 : Nat)
    (hown : w1.ownsRow base 47 1 (.slice A1 (xs ++ [k]).length c1) (xs ++ [k]).length (encs (Value.float .f64) (xs ++ [k]))) (hb1 : Below base w w1) (hg1 : w.grownBy w1 (Value.slice A xs.length c).ownBlock)
    (hat : (Value.slice A1 (xs ++ [k]).length c1).ownBlock = (Value.slice A xs.length c).ownBlock ∨ ∃ b, (Value.slice A1 (xs ++ [k]).length c1).ownBlock = some b ∧ w.heap.size ≤ b)
    (W2 W3 : World) (h2 : W2 = w1.setCell ⟨g, 1, none⟩ (.slice A1 (xs.length + 1) c1)) (h3 : W3 = { W2 with drawn := W2.drawn + 1 }) (es : Array MapEntry) (cl : Nat)
    (hraw : IsRaw (ChangeMaps.setBlock W3 m (.map es cl)) m ((xs ++ [k]).map (Value.float .f64)) (vals xs.length ++ [.int .i64 ((xs.length : Int) + 1)])) :
    ∃ v', Idx (ChangeMaps.setBlock W3 m (.map es cl)) base g m v' (xs ++ [k]) ∧ Below base w (ChangeMaps.setBlock W3 m (.map es cl)) ∧ Kept w (ChangeMaps.setBlock W3 m (.map es cl)) (fun i => i = g ∨ i = m ∨ some i = (Value.slice A xs.length c).ownBlock) ∧ (v'.ownBlock = (Value.slice A xs.length c).ownBlock ∨ ∃ b, v'.ownBlock = some b ∧ w.heap.size ≤ b) := by
  have hl : (xs ++ [k]).length = xs.length + 1 := by simp
  have hne : some g ≠ (Value.slice A xs.length c).ownBlock := own_ne h.row h.blk (by decide)
  have hgl : g < w.heap.size := (Array.getElem?_eq_some_iff.1 h.blk).1
  have hblk1 : w1.heap[g]? = some (.cells #[.map (some m), .slice A xs.length c] 89 (0, 0)) := (hg1.block g hgl hne).trans h.blk
  have hmg : m ≠ g := raw_ne_blk h.raw h.blk
  have hvals : vals xs.length ++ [.int .i64 ((xs.length : Int) + 1)] = vals (xs ++ [k]).length := by rw [hl]; unfold vals; rw [List.range_succ, List.map_append]; rfl
  have hheap3 : W3.heap = W2.heap := by rw [h3]
  have hsz2 : W2.heap.size = w1.heap.size := by rw [h2]; simp [World.setCell]
  have hrow1 : W2.ownsRow base 47 1 (.slice A1 (xs ++ [k]).length c1) (xs ++ [k]).length (encs (Value.float .f64) (xs ++ [k])) := by rw [h2]; exact own_setCell hown (p := ⟨g, 1, none⟩) (own_ne hown hblk1 (by decide)) _
  have hblk2 : W2.heap[g]? = some (.cells #[.map (some m), .slice A1 (xs ++ [k]).length c1] 89 (0, 0)) := by rw [h2, hl]; exact blk_set hblk1 1 _
  have hmne : some m ≠ (Value.slice A1 (xs ++ [k]).length c1).ownBlock := by
    rcases hat with e | ⟨b, e, hle⟩
    · rw [e]; exact raw_ne h.raw h.row
    · rw [e]; intro he; injection he with he; have := h.raw.lt; omega
  refine ⟨_, ⟨?_, by rw [← hvals]; exact hraw, ?_, h.hg, h.hm⟩, ?_, ?_, hat⟩
  · rw [set_other (Ne.symm hmg), hheap3]; exact hblk2
  · refine own_heap hrow1 (fun j hj => ?_)
    rw [set_other (fun e => hmne (by rw [hj, e])), hheap3]
  · refine below_set_map ?_ h.hm
    have hb2 : Below base w W2 := by rw [h2]; exact hb1.setCell (p := ⟨g, 1, none⟩) h.hg _
    rw [h3]
    exact ⟨hb2.os, hb2.tape, hb2.output, hb2.size, hb2.block⟩
  · refine kept_set_map ?_ (.inr (.inl rfl))
    have hk1 : Kept w w1 (fun i => i = g ∨ i = m ∨ some i = (Value.slice A xs.length c).ownBlock) := (Kept.refl w _).of_grown hg1 (fun j hj => .inl (.inr (.inr hj.symm)))
    have hk2 : Kept w W2 (fun i => i = g ∨ i = m ∨ some i = (Value.slice A xs.length c).ownBlock) := by rw [h2]; exact hk1.setCell (p := ⟨g, 1, none⟩) (.inl (.inl rfl)) _
    rw [h3]
    exact hk2
theorem new_calls (w : World) : Calls Try.prog 19 #[] w fun e w' => ∃ g m, e = .returned (.pointer (some ⟨g, 0, none⟩)) ∧ Idx w' w.heap.size g m (.slice none 0 0) [] ∧ Below w.heap.size w w' := by
  have hmm := @run_makeMap Try.prog
  go_enter Try.func19, Try.ntmps19
  go_wp2
  go_ret
  refine ⟨_, w.heap.size, rfl, ⟨?_, ⟨#[], 0, ?_, rfl, rfl⟩, own_nil _ _ _ _, by simp, Nat.le_refl _⟩, ((Below.refl _ _).alloc (Nat.le_refl _) _).alloc (by simp) _⟩
  · have := heap_new (w.alloc (.map #[] 0)) (.cells #[.map (some w.heap.size), .slice none 0 0] 89)
    rwa [size_new] at this
  · rw [heap_old _ _ (by simp)]
    exact heap_new _ _

theorem of_found (k : Nat) (xs : List Nat) (i : Nat) (base g m : Nat) (v : Value) (w : World) (h : Idx w base g m v xs) (hi : xs.findIdx? (fun b => eqk k b) = some i) (hl : i < xs.length) :
    Calls Try.prog 22 #[.pointer (some ⟨g, 0, none⟩), Value.float .f64 k] w fun e w' => e = .returned (.int .i64 ((i : Int) + 1)) ∧ w' = w := by
  have hc0 := (cell_of h.blk 0).1
  have hlk : (Instr.lookup 87 (.map (some m)) (Value.float .f64 k) true).run Try.prog w = .ok (.tuple #[.int .i64 ((i : Int) + 1), .bool true]) w := by
    have := run_look key Try.underlying87 (zero3 w) h.raw k
    rw [lkVal_some hi, lkOk_some hi] at this
    rw [this]
    simp [vals, hl]
  clear h hi
  go_enter Try.func22, Try.ntmps22
  go_wp2
  go_ret
  exact ⟨rfl, rfl⟩

theorem find_found (k : Nat) (xs : List Nat) (i : Nat) (base g m : Nat) (v : Value) (w : World) (h : Idx w base g m v xs) (hi : xs.findIdx? (fun b => eqk k b) = some i) (hl : i < xs.length) :
    Calls Try.prog 23 #[.pointer (some ⟨g, 0, none⟩), Value.float .f64 k] w fun e w' => e = .returned (.tuple #[.int .i64 ((i : Int) + 1), .bool true]) ∧ w' = w := by
  have hc0 := (cell_of h.blk 0).1
  have hlk : (Instr.lookup 87 (.map (some m)) (Value.float .f64 k) true).run Try.prog w = .ok (.tuple #[.int .i64 ((i : Int) + 1), .bool true]) w := by
    have := run_look key Try.underlying87 (zero3 w) h.raw k
    rw [lkVal_some hi, lkOk_some hi] at this
    rw [this]
    simp [vals, hl]
  clear h hi
  go_enter Try.func23, Try.ntmps23
  go_wp2
  go_ret2
  exact ⟨rfl, rfl⟩

theorem find_none (k : Nat) (xs : List Nat) (base g m : Nat) (v : Value) (w : World) (h : Idx w base g m v xs) (hi : xs.findIdx? (fun b => eqk k b) = none) :
    Calls Try.prog 23 #[.pointer (some ⟨g, 0, none⟩), Value.float .f64 k] w fun e w' => e = .returned (.tuple #[.int .i64 0, .bool false]) ∧ w' = w := by
  have hc0 := (cell_of h.blk 0).1
  have hlk : (Instr.lookup 87 (.map (some m)) (Value.float .f64 k) true).run Try.prog w = .ok (.tuple #[.int .i64 0, .bool false]) w := by
    have := run_look key Try.underlying87 (zero3 w) h.raw k
    rwa [lkVal_none hi, lkOk_none hi] at this
  clear h hi
  go_enter Try.func23, Try.ntmps23
  go_wp2
  go_ret2
  exact ⟨rfl, rfl⟩

theorem of_full (k : Nat) (xs : List Nat) (base g m : Nat) (v : Value) (w : World) (h : Idx w base g m v xs) (hi : xs.findIdx? (fun b => eqk k b) = none) (hl : 1048576 ≤ xs.length) :
    Calls Try.prog 22 #[.pointer (some ⟨g, 0, none⟩), Value.float .f64 k] w fun e w' => e = .returned (.int .i64 0) ∧ w' = w := by
  have hc0 := (cell_of h.blk 0).1
  have hc1 := (cell_of h.blk 1).1
  have hlk : (Instr.lookup 87 (.map (some m)) (Value.float .f64 k) true).run Try.prog w = .ok (.tuple #[.int .i64 0, .bool false]) w := by
    have := run_look key Try.underlying87 (zero3 w) h.raw k
    rwa [lkVal_none hi, lkOk_none hi] at this
  obtain ⟨A, c, rfl⟩ := own_slice h.row
  have hle : decide ((1048576 : Int) ≤ (xs.length : Int)) = true := decide_eq_true (by omega)
  clear h hi hl
  go_enter Try.func22, Try.ntmps22
  go_wp2
  go_ret
  exact ⟨rfl, rfl⟩

theorem len_calls (xs : List Nat) (base g m : Nat) (v : Value) (w : World) (h : Idx w base g m v xs) :
    Calls Try.prog 26 #[.pointer (some ⟨g, 0, none⟩)] w fun e w' => e = .returned (.int .i64 (xs.length : Int)) ∧ w' = w := by
  have hc1 := (cell_of h.blk 1).1
  obtain ⟨A, c, rfl⟩ := own_slice h.row
  clear h
  go_enter Try.func26, Try.ntmps26
  go_wp2
  go_ret
  exact ⟨rfl, rfl⟩

set_option maxRecDepth 100000 in
theorem of_new (k : Nat) (xs : List Nat) (base g m : Nat) (v : Value) (w : World) (h : Idx w base g m v xs) (hi : xs.findIdx? (fun b => eqk k b) = none) (hl : xs.length < 1048576) :
    Calls Try.prog 22 #[.pointer (some ⟨g, 0, none⟩), Value.float .f64 k] w fun e w' => e = .returned (.int .i64 ((xs.length : Int) + 1)) ∧ ∃ v', Idx w' base g m v' (xs ++ [k]) ∧ Below base w w' ∧ Kept w w' (fun i => i = g ∨ i = m ∨ some i = v.ownBlock) ∧ (v'.ownBlock = v.ownBlock ∨ ∃ b, v'.ownBlock = some b ∧ w.heap.size ≤ b) := by
  have hc0 := (cell_of h.blk 0).1
  have hc1 := (cell_of h.blk 1).1
  have hlk : (Instr.lookup 87 (.map (some m)) (Value.float .f64 k) true).run Try.prog w = .ok (.tuple #[.int .i64 0, .bool false]) w := by
    have := run_look key Try.underlying87 (zero3 w) h.raw k
    rwa [lkVal_none hi, lkOk_none hi] at this
  obtain ⟨A, c, rfl⟩ := own_slice h.row
  have hle : decide ((1048576 : Int) ≤ (xs.length : Int)) = false := decide_eq_false (by omega)
  have hgl : g < w.heap.size := (Array.getElem?_eq_some_iff.1 h.blk).1
  have hne : some g ≠ (Value.slice A xs.length c).ownBlock := own_ne h.row h.blk (by decide)
  have HO := Lib.hid h.row
  have HN := Lib.hid hne
  have HL := Lib.hid hl
  have HI := Lib.hid hi
  have HH := Lib.hid h
  have HG := Lib.hid hgl
  have HR := Lib.hid h.raw
  have HB := Lib.hid h.blk
  have HM := Lib.hid h.hg
  clear hl hi h hne hgl
  go_enter Try.func22, Try.ntmps22
  go_wp2_with (at_builtin; go_must (refine print_append_of (Value.float .f64) base rfl _ _ 55 47 (.float .f64 0) 8 rfl Try.underlying55 info47 rfl (by decide) (.slice A xs.length c) xs k rfl rfl rfl HO.out (Below.refl base w) (Nat.le_trans HM.out (Nat.le_of_lt HG.out)) (by have := HL.out; omega) ?_); intro v1 w1 hown hb1 hg1 hat; obtain ⟨A1, c1, hv⟩ := own_slice hown; rw [hv]; rw [hv] at hown hat; clear hv; have hblk : w1.heap[g]? = some (.cells #[.map (some m), .slice A xs.length c] 89 (0, 0)) := (hg1.block g HG.out HN.out).trans HB.out; have hd0 := (cell_of hblk 0).1; have hd1 := (cell_of hblk 1).1; have hf1 := (cell_of hblk 1).2; have HOW := Lib.hid hown; have HB1 := Lib.hid hb1; have HG1 := Lib.hid hg1; have HAT := Lib.hid hat; have HBK := Lib.hid hblk; clear hown hb1 hg1 hat hblk hc0 hc1 hlk)
  have HF1 := Lib.hid hf1
  have HBK2 := Lib.hid (blk_set HBK.out 1 (.slice A1 (xs.length + 1) c1))
  have HOW2 := Lib.hid (own_setCell HOW.out (p := ⟨g, 1, none⟩) (own_ne HOW.out HBK.out (by decide)) (.slice A1 (xs.length + 1) c1))
  have HR2 := Lib.hid (show IsRaw (w1.setCell ⟨g, 1, none⟩ (.slice A1 (xs.length + 1) c1)) m (xs.map (Value.float .f64)) (vals xs.length) from (HR.out.move (HG1.out.block m HR.out.lt (raw_ne HR.out HO.out))).move (Below.heap_setCell _ ⟨g, 1, none⟩ _ m (fun e => raw_ne_blk (HR.out.move (HG1.out.block m HR.out.lt (raw_ne HR.out HO.out))) HBK.out e)))
  obtain ⟨W2, hW2⟩ : ∃ W2, W2 = w1.setCell ⟨g, 1, none⟩ (.slice A1 (xs.length + 1) c1) := ⟨_, rfl⟩
  rw [← hW2]
  refine wp_region_still_tail 10 (by kernel_rfl) (by kernel_rfl) ?_
  obtain ⟨W3, hW3⟩ : ∃ W3 : World, W3 = { W2 with drawn := W2.drawn + 1 } := ⟨_, rfl⟩
  rw [← hW3]
  have hH : W3.heap = w1.heap.modify g (fun | .cells c elem frozen => .cells (c.setIfInBounds 1 (.slice A1 (xs.length + 1) c1)) elem frozen | o => o) := by rw [hW3, hW2]; rfl
  have HBK3 := Lib.hid (show W3.heap[g]? = some (.cells #[.map (some m), .slice A1 (xs.length + 1) c1] 89 (0, 0)) from by rw [hW3, hW2]; exact HBK2.out)
  have hk0 := (cell_of HBK3.out 0).1
  have hk1 := (cell_of HBK3.out 1).1
  have HR3 := Lib.hid (show IsRaw W3 m (xs.map (Value.float .f64)) (vals xs.length) from by rw [hW3, hW2]; exact HR2.out)
  have HH3 := Lib.hid hW3
  have HH2 := Lib.hid hW2
  clear hW3 hW2 hH hd0 hd1 hf1
  simp only [List.take_succ_cons, List.take_zero, List.drop_succ_cons, List.drop_zero]
  repeat still_step
  try refine wpStill_nil ?_
  go_wp2_with (at_mapUpdate; go_must (refine wpList_new rfl _ _ _ rfl key Try.underlying87 rfl HR3.out k rfl (.int .i64 ((xs.length : Int) + 1)) rfl HI.out ?_); intro es cl hraw; have hbk4 : (ChangeMaps.setBlock W3 m (.map es cl)).heap[g]? = some (.cells #[.map (some m), .slice A1 (xs.length + 1) c1] 89 (0, 0)) := ((set_other (Ne.symm (raw_ne_blk HR3.out HBK3.out))).trans HBK3.out); have hj1 := (cell_of hbk4 1).1; have HBK4 := Lib.hid hbk4; have HRW := Lib.hid hraw; clear hraw hbk4)
  go_ret
  exact ⟨rfl, new_end k xs base g m A c w HH.out w1 A1 c1 HOW.out HB1.out HG1.out HAT.out W2 W3 HH2.out HH3.out es cl HRW.out⟩

theorem row_cell {w : World} {base n c : Nat} {A : Option Addr} {xs : List Nat} (h : w.ownsRow base 47 1 (.slice A n c) n (encs (Value.float .f64) xs)) (i : Nat) (hi : i < n) : ∃ b, A = some ⟨b, 0, none⟩ ∧ w.cell? ⟨b, i, none⟩ = some (Value.float .f64 (rdOf (0 : Nat) xs i)) := by
  rcases h.2 with ⟨he, h1⟩ | ⟨g', cap', cur, he, hb, hh, _⟩
  · injection he with _ h2
    omega
  · injection he with h1 h2 h3
    subst h1
    refine ⟨g', rfl, ?_⟩
    have := (own_at_of (d := (0 : Nat)) h (i : Int) (by omega) (by omega)).1
    simpa using this
theorem row_max {w : World} {base : Nat} {v : Value} {n : Nat} {xs : List Value} (h : w.ownsRow base 47 1 v n xs) : n ≤ 9223372036854775807 := by
  rcases h.2 with ⟨_, h0⟩ | ⟨_, _, _, _, _, _, _, h3, _⟩
  · have := h.1
    rw [h0] at this
    simp at this
    omega
  · simp only [maxLen] at h3
    omega
theorem at_found (n : Int) (xs : List Nat) (base g m : Nat) (v : Value) (w : World) (h : Idx w base g m v xs) (h1 : 1 ≤ n) (h2 : n ≤ xs.length) :
    Calls Try.prog 24 #[.pointer (some ⟨g, 0, none⟩), .int .i64 n] w fun e w' => e = .returned (.tuple #[Value.float .f64 (rdOf (0 : Nat) xs (n - 1)), .bool true]) ∧ w' = w := by
  have hc1 := (cell_of h.blk 1).1
  obtain ⟨A, c, rfl⟩ := own_slice h.row
  obtain ⟨j, rfl⟩ : ∃ j : Nat, n = (j : Int) + 1 := ⟨(n - 1).toNat, by omega⟩
  obtain ⟨b, rfl, hcell⟩ := row_cell h.row j (by omega)
  have hle := row_max h.row
  rw [show (j : Int) + 1 - 1 = j from by omega]
  clear h
  go_enter Try.func24, Try.ntmps24
  go_wp2
  go_ret2
  exact ⟨rfl, rfl⟩
theorem at_low (n : Int) (xs : List Nat) (base g m : Nat) (v : Value) (w : World) (h : Idx w base g m v xs) (h1 : n < 1) :
    Calls Try.prog 24 #[.pointer (some ⟨g, 0, none⟩), .int .i64 n] w fun e w' => e = .returned (.tuple #[.float .f64 0, .bool false]) ∧ w' = w := by
  clear h
  go_enter Try.func24, Try.ntmps24
  go_wp2
  go_ret2
  exact ⟨rfl, rfl⟩
theorem at_high (n : Int) (xs : List Nat) (base g m : Nat) (v : Value) (w : World) (h : Idx w base g m v xs) (h1 : (xs.length : Int) < n) :
    Calls Try.prog 24 #[.pointer (some ⟨g, 0, none⟩), .int .i64 n] w fun e w' => e = .returned (.tuple #[.float .f64 0, .bool false]) ∧ w' = w := by
  have hc1 := (cell_of h.blk 1).1
  obtain ⟨A, c, rfl⟩ := own_slice h.row
  have h0 : decide (n < 1) = true ∨ decide (n < 1) = false := by cases decide (n < 1) <;> simp
  clear h
  rcases h0 with h0 | h0
  all_goals
    go_enter Try.func24, Try.ntmps24
    go_wp2
    go_ret2
    exact ⟨rfl, rfl⟩
end Go.Proofs.Ytaeijlkogenblaa.IxF
