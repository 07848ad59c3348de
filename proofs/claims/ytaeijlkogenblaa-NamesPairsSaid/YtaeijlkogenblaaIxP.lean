/- An index of IxP: what NewIndex, Of, Find, At and Len do, told by the things that have numbers, in their order. Conditions: each theorem's own. -/
import Derived.Test.YtaeijlkogenblaaWRaw
import Derived.Test.YtaeijlkogenblaaWKept
import Derived.Test.YtaeijlkogenblaaProg
import Derived.Outline
import Derived.Lib.Hide
import Derived.Deep.DeepMust
import Derived.RegionTactic
import Derived.ChangeAlike
import Derived.Deep.QuietTactic
import Derived.BigQuiet
import Derived.StillTailTactics
import Derived.Laws.ResultCell
import Derived.Deep.RegionLaw
import Derived.Laws.Rows
import Derived.Test.YtaeijlkogenblaaWMap
import Derived.Laws.ResultCell
import Derived.Deep.RegionLaw
import Derived.Laws.Rows
import Derived.Test.YtaeijlkogenblaaWMap
namespace Go.Proofs.Ytaeijlkogenblaa.IxP
open Go.RowKit Go.Proofs.YtaeijlkogenblaaW.Raw Go.Proofs.YtaeijlkogenblaaW.PrintWords
set_option linter.unusedVariables false

abbrev encP (p : Int × Int) : Value := .agg #[.int .i64 p.1, .int .i64 p.2]
def cel : List (Int × Int) → List Value
  | [] => []
  | p :: l => .int .i64 p.1 :: .int .i64 p.2 :: cel l
theorem cel_app (a b : List (Int × Int)) : cel (a ++ b) = cel a ++ cel b := by
  induction a with
  | nil => rfl
  | cons p l ih => simp [cel, ih]
theorem cel_len (l : List (Int × Int)) : (cel l).length = 2 * l.length := by
  induction l with
  | nil => rfl
  | cons p l ih => simp [cel, ih]; omega
theorem cel_get (l : List (Int × Int)) (i : Nat) (p : Int × Int) (h : l[i]? = some p) : (cel l)[2 * i]? = some (.int .i64 p.1) ∧ (cel l)[2 * i + 1]? = some (.int .i64 p.2) := by
  induction l generalizing i with
  | nil => simp at h
  | cons q l ih => cases i with
    | zero => simp at h; subst h; exact ⟨rfl, rfl⟩
    | succ i =>
      have := ih i (by simpa using h)
      exact ⟨by rw [show 2 * (i + 1) = 2 * i + 2 from by omega]; simpa [cel] using this.1, by rw [show 2 * (i + 1) + 1 = 2 * i + 1 + 2 from by omega]; simpa [cel] using this.2⟩
def eqk (a b : (Int × Int)) : Bool := a.1 == b.1 && a.2 == b.2
theorem eqk_iff (a b : Int × Int) : eqk a b = true ↔ a = b := by
  obtain ⟨a1, a2⟩ := a
  obtain ⟨b1, b2⟩ := b
  simp [eqk]
theorem eqP (d : Nat) (w : World) (a b a' b' : Int) : (Op.equalIn (d + 2) 48 (.agg #[.int .i64 a, .int .i64 b]) (.agg #[.int .i64 a', .int .i64 b'])).run Try.prog w = .ok (a == a' && b == b') w := by
  obtain ⟨i3, hi3⟩ : ∃ i, Try.prog.info? 3 = some i := Option.isSome_iff_exists.1 (by kernel_rfl)
  rw [show d + 2 = (d + 1) + 1 from rfl, run_equalIn_array w (d + 1) _ _ Try.underlying48 hi3]
  have hc : Try.prog.cellsOf 3 = 1 := by kernel_rfl
  have h0 : ∀ x y : Int, (part 3 #[Value.int .i64 x, Value.int .i64 y] 0).run Try.prog w = .ok (.int .i64 x) w := fun x y => by first | (go_simp; done) | (go_simp; rfl)
  have h1 : ∀ x y : Int, (part 3 #[Value.int .i64 x, Value.int .i64 y] 1).run Try.prog w = .ok (.int .i64 y) w := fun x y => by first | (go_simp; done) | (go_simp; rfl)
  have he : ∀ x y : Int, (Op.equalIn (d + 1) 3 (.int .i64 x) (.int .i64 y)).run Try.prog w = .ok (x == y) w := fun x y => run_equalIn_int w d 3 .i64 .i64 x y Try.underlying3
  rw [hc]
  simp only [List.range_succ, List.range_zero, List.nil_append, List.cons_append, Op.eqItems, Sem.run_bind, h0, he, Result.andThen_ok, Nat.zero_mul, Nat.one_mul]
  cases ha : a == a' <;> cases hb : b == b' <;> simp [h1, he, hb, Result.andThen]
def vals (n : Nat) : List Value := (List.range n).map fun (i : Nat) => .int .i64 ((i : Int) + 1)
structure Idx (w : World) (base g m : Nat) (v : Value) (xs : List (Int × Int)) : Prop where
  blk : w.heap[g]? = some (.cells #[.map (some m), v] 93 (0, 0))
  raw : IsRaw w m (xs.map encP) (vals xs.length)
  row : w.ownsRow base 48 2 v xs.length (cel xs)
  hg : base ≤ g
  hm : base ≤ m

theorem key : Key Try.prog 48 encP eqk := by
  refine key_asked Try.underlying48 (fun w b x => ?_) (fun x y => rfl) (fun w x y => ?_)
  · have h0 : (part 3 #[Value.int .i64 x.1, Value.int .i64 x.2] 0).run Try.prog w = .ok (.int .i64 x.1) w := by first | (go_simp; done) | (go_simp; rfl)
    have h1 : (part 3 #[Value.int .i64 x.1, Value.int .i64 x.2] 1).run Try.prog w = .ok (.int .i64 x.2) w := by first | (go_simp; done) | (go_simp; rfl)
    have hc : ∀ v : Value, (Instr.checkKey b 9999 3 v).run Try.prog w = .ok () w := fun v => check_plain Try.underlying3 (by simp) (by simp) (by simp) w b 9998
    obtain ⟨i3, hi3⟩ : ∃ i, Try.prog.info? 3 = some i := Option.isSome_iff_exists.1 (by kernel_rfl)
    have hs : (sizeOf 3).run Try.prog w = .ok 1 w := by kernel_rfl
    unfold Instr.checkKey
    simp only [Sem.run_bind, run_underlying Try.underlying48, Result.andThen_ok]
    simp [h0, h1, hc, hs, Result.andThen, List.range'_succ]
  · exact eqP 9998 w x.1 x.2 y.1 y.2
theorem zero3 (w : World) : (zeroValue 3).run Try.prog w = .ok (.int .i64 0) w := by kernel_rfl

theorem cell_of {w : World} {g t : Nat} {cs : Array Value} (h : w.heap[g]? = some (.cells cs t (0, 0))) (i : Nat) : w.cell? ⟨g, i, none⟩ = cs[i]? ∧ w.frozen? ⟨g, i, none⟩ = false := by
  simp [World.cell?, World.frozen?, h]

theorem info48 : (Try.prog.info? 48).map (fun i => (i.zero, i.size, i.bytes)) = some (some (.agg #[.int .i64 0, .int .i64 0]), 2, 16) := by kernel_rfl
theorem heap_new (w : World) (o : Obj) : (w.alloc o).heap[w.heap.size]? = some o := by show (w.heap.push o)[w.heap.size]? = some o; simp
theorem heap_old (w : World) (o : Obj) {i : Nat} (h : i < w.heap.size) : (w.alloc o).heap[i]? = w.heap[i]? := by show (w.heap.push o)[i]? = _; rw [Array.getElem?_push]; simp; omega
theorem size_new (w : World) (o : Obj) : (w.alloc o).heap.size = w.heap.size + 1 := Array.size_push ..

theorem set_other {w : World} {m i : Nat} {o : Obj} (h : i ≠ m) : (ChangeMaps.setBlock w m o).heap[i]? = w.heap[i]? := by
  show (w.heap.setIfInBounds m o)[i]? = _
  rw [Array.getElem?_setIfInBounds, if_neg (Ne.symm h)]
theorem set_size {w : World} {m : Nat} {o : Obj} : (ChangeMaps.setBlock w m o).heap.size = w.heap.size := by
  show (w.heap.setIfInBounds m o).size = _
  simp
theorem raw_ne {w : World} {m base n size : Nat} {e : TypeId} {ks vs xs : List Value} {v : Value} (h : IsRaw w m ks vs) (ho : w.ownsRow base e size v n xs) : some m ≠ v.ownBlock := by
  obtain ⟨es, cl, hb, _⟩ := h
  rcases ho.2 with ⟨rfl, _⟩ | ⟨g', cap, cur, rfl, hg, hh, _⟩
  · simp [Value.ownBlock]
  · intro he
    have : m = g' := by simpa [Value.ownBlock] using he
    subst this
    rw [hb] at hh
    cases hh
theorem raw_ne_blk {w : World} {m g t : Nat} {ks vs : List Value} {cs : Array Value} (h : IsRaw w m ks vs) (hb : w.heap[g]? = some (.cells cs t (0, 0))) : m ≠ g := by
  obtain ⟨es, cl, hm, _⟩ := h
  rintro rfl
  rw [hm] at hb
  cases hb
theorem below_set_map {base m : Nat} {w W : World} {es : Array MapEntry} {c : Nat} (h : Below base w W) (hm : base ≤ m) : Below base w (ChangeMaps.setBlock W m (.map es c)) :=
  ⟨h.os, h.tape, h.output, by rw [set_size]; exact h.size, fun i hi => (set_other (by omega)).trans (h.block i hi)⟩
theorem kept_set_map {m : Nat} {w W : World} {es : Array MapEntry} {c : Nat} {S : Nat → Prop} (h : Kept w W S) (hm : S m) : Kept w (ChangeMaps.setBlock W m (.map es c)) S :=
  ⟨by rw [set_size]; exact h.1, fun i hi hn => (set_other (fun e => hn (by rw [e]; exact hm))).trans (h.2 i hi hn)⟩
theorem own_heap {w W : World} {base n size : Nat} {e : TypeId} {v : Value} {xs : List Value} (h : w.ownsRow base e size v n xs) (hh : ∀ k, v.ownBlock = some k → W.heap[k]? = w.heap[k]?) : W.ownsRow base e size v n xs := own_move h hh
theorem new_end (k : (Int × Int)) (xs : List (Int × Int)) (base g m : Nat) (A : Option Addr) (c : Nat) (w : World) (h : Idx w base g m (.slice A xs.length c) xs) (w1 : World) (A1 : Option Addr) (c1 : Nat)
    (hown : w1.ownsRow base 48 2 (.slice A1 (xs ++ [k]).length c1) (xs ++ [k]).length (cel (xs ++ [k]))) (hb1 : Below base w w1) (hg1 : w.grownBy w1 (Value.slice A xs.length c).ownBlock)
    (hat : (Value.slice A1 (xs ++ [k]).length c1).ownBlock = (Value.slice A xs.length c).ownBlock ∨ ∃ b, (Value.slice A1 (xs ++ [k]).length c1).ownBlock = some b ∧ w.heap.size ≤ b)
    (W2 W3 : World) (h2 : W2 = w1.setCell ⟨g, 1, none⟩ (.slice A1 (xs.length + 1) c1)) (h3 : W3 = { W2 with drawn := W2.drawn + 1 }) (es : Array MapEntry) (cl : Nat)
    (hraw : IsRaw (ChangeMaps.setBlock W3 m (.map es cl)) m ((xs ++ [k]).map encP) (vals xs.length ++ [.int .i64 ((xs.length : Int) + 1)])) :
    ∃ v', Idx (ChangeMaps.setBlock W3 m (.map es cl)) base g m v' (xs ++ [k]) ∧ Below base w (ChangeMaps.setBlock W3 m (.map es cl)) ∧ Kept w (ChangeMaps.setBlock W3 m (.map es cl)) (fun i => i = g ∨ i = m ∨ some i = (Value.slice A xs.length c).ownBlock) ∧ (v'.ownBlock = (Value.slice A xs.length c).ownBlock ∨ ∃ b, v'.ownBlock = some b ∧ w.heap.size ≤ b) := by
  have hl : (xs ++ [k]).length = xs.length + 1 := by simp
  have hne : some g ≠ (Value.slice A xs.length c).ownBlock := own_ne h.row h.blk (by decide)
  have hgl : g < w.heap.size := (Array.getElem?_eq_some_iff.1 h.blk).1
  have hblk1 : w1.heap[g]? = some (.cells #[.map (some m), .slice A xs.length c] 93 (0, 0)) := (hg1.block g hgl hne).trans h.blk
  have hmg : m ≠ g := raw_ne_blk h.raw h.blk
  have hvals : vals xs.length ++ [.int .i64 ((xs.length : Int) + 1)] = vals (xs ++ [k]).length := by rw [hl]; unfold vals; rw [List.range_succ, List.map_append]; rfl
  have hheap3 : W3.heap = W2.heap := by rw [h3]
  have hsz2 : W2.heap.size = w1.heap.size := by rw [h2]; simp [World.setCell]
  have hrow1 : W2.ownsRow base 48 2 (.slice A1 (xs ++ [k]).length c1) (xs ++ [k]).length (cel (xs ++ [k])) := by rw [h2]; exact own_setCell hown (p := ⟨g, 1, none⟩) (own_ne hown hblk1 (by decide)) _
  have hblk2 : W2.heap[g]? = some (.cells #[.map (some m), .slice A1 (xs ++ [k]).length c1] 93 (0, 0)) := by rw [h2, hl]; exact blk_set hblk1 1 _
  have hmne : some m ≠ (Value.slice A1 (xs ++ [k]).length c1).ownBlock := by
    rcases hat with e | ⟨b, e, hle⟩
    · rw [e]; exact raw_ne h.raw h.row
    · rw [e]; intro he; injection he with he; have := h.raw.lt; omega
  refine ⟨_, ⟨?_, by rw [← hvals]; exact hraw, ?_, h.hg, h.hm⟩, ?_, ?_, hat⟩
  · rw [set_other (Ne.symm hmg), hheap3]; exact hblk2
  · refine own_heap hrow1 (fun j hj => ?_)
    rw [set_other (fun e => hmne (by rw [hj, e])), hheap3]
  · refine below_set_map ?_ h.hm
    have hb2 : Below base w W2 := by rw [h2]; exact hb1.setCell (p := ⟨g, 1, none⟩) h.hg _
    rw [h3]
    exact ⟨hb2.os, hb2.tape, hb2.output, hb2.size, hb2.block⟩
  · refine kept_set_map ?_ (.inr (.inl rfl))
    have hk1 : Kept w w1 (fun i => i = g ∨ i = m ∨ some i = (Value.slice A xs.length c).ownBlock) := (Kept.refl w _).of_grown hg1 (fun j hj => .inl (.inr (.inr hj.symm)))
    have hk2 : Kept w W2 (fun i => i = g ∨ i = m ∨ some i = (Value.slice A xs.length c).ownBlock) := by rw [h2]; exact hk1.setCell (p := ⟨g, 1, none⟩) (.inl (.inl rfl)) _
    rw [h3]
    exact hk2
theorem new_calls (w : World) : Calls Try.prog 28 #[] w fun e w' => ∃ g m, e = .returned (.pointer (some ⟨g, 0, none⟩)) ∧ Idx w' w.heap.size g m (.slice none 0 0) [] ∧ Below w.heap.size w w' := by
  have hmm := @run_makeMap Try.prog
  go_enter Try.func28, Try.ntmps28
  go_wp2
  go_ret
  refine ⟨_, w.heap.size, rfl, ⟨?_, ⟨#[], 0, ?_, rfl, rfl⟩, own_nil _ _ _ _, by simp, Nat.le_refl _⟩, ((Below.refl _ _).alloc (Nat.le_refl _) _).alloc (by simp) _⟩
  · have := heap_new (w.alloc (.map #[] 0)) (.cells #[.map (some w.heap.size), .slice none 0 0] 93)
    rwa [size_new] at this
  · rw [heap_old _ _ (by simp)]
    exact heap_new _ _

theorem idx_below {base g m : Nat} {v : Value} {xs : List (Int × Int)} {w W : World} (h : Idx w base g m v xs) (hb : Below w.heap.size w W) : Idx W base g m v xs :=
  ⟨(hb.block g (Array.getElem?_eq_some_iff.1 h.blk).1).trans h.blk, h.raw.move (hb.block m h.raw.lt), own_heap h.row (fun k hk => hb.block k (own_lt h.row k hk)), h.hg, h.hm⟩
theorem any_drew {G : (Act → World → Prop) → (Exit → Act → World → Prop) → Exit → Act → World → Prop} {k : Act → World → Prop} {q : Exit → Act → World → Prop} {e : Exit} {a : Act} {w1 : World} (h : ∀ w2, (∃ n, w2 = w1.drewN n) → G k q e a w2) (n : Nat) : G k q e a (w1.drewN n) := h _ ⟨n, rfl⟩
theorem bstore {P : Program} {ops : Array Oper} {rest : List Oper} {o : Oper} {a : Act} {Q : Exit → Act → World → Prop} {W : World} {t e : TypeId} {p : Tmp} {v : Operand} (hg : o.guard = none) (ho : o.op = .store t (.tmp p) v) (hN : o.dst = none) (g : Nat) (cur seg : Array Value) (u : Value)
    (hp : a.eval (.tmp p) = .pointer (some ⟨g, 0, none⟩)) (hv : a.eval v = u) (hu : u.cells.toList = seg.toList) (hh : W.heap[g]? = some (.cells cur e (0, 0))) (ht : (P.info? t).map (·.size) = some seg.size) (hsz : cur.size = seg.size) (h1 : ∀ q ∈ seg.toList, q.oneCell' = true)
    (h : ∀ w1 : World, w1.heap[g]? = some (.cells seg e (0, 0)) → (∀ i, i ≠ g → w1.heap[i]? = W.heap[i]?) → w1.heap.size = W.heap.size → (∀ B, B ≤ g → Below B W w1) → wpList P ops Q rest a w1) : wpList P ops Q (o :: rest) a W := by
  have hrun := run_store_run (P := P) (w := W) (o := 0) t u seg.toList hh hu (by rw [ht, Array.length_toList]) (by rw [Array.length_toList]; omega) h1
  obtain ⟨cur', h3, h4, h5⟩ := setCells_row seg.toList 0 W cur hh (by rw [Array.length_toList]; omega)
  have e5 : cur' = seg := by
    apply Array.ext'
    rw [h5, List.take_zero, List.nil_append, List.drop_of_length_le (by rw [Array.length_toList, Array.length_toList]; omega), List.append_nil]
  rw [e5] at h3
  obtain ⟨s1, s2, s3, s4⟩ := setCells_same g seg.toList 0 W
  refine store_event (w1 := W.setCells g 0 seg.toList) hg (t := t) (p := p) (v := v) ho hN ?_ (fun w' e => ?_)
  · simp only [execOp, ho, hp, hv]
    simp [hrun, Result.andThen]
  · subst e
    exact h _ h3 (fun i hi => setCells_far _ _ _ hi) s4 (fun B hB => ⟨s1, s2, s3, by rw [s4]; exact Nat.le_refl _, fun i hi => setCells_far _ _ _ (by omega)⟩)

theorem of_found (k : (Int × Int)) (xs : List (Int × Int)) (i : Nat) (base g m : Nat) (v : Value) (w : World) (h : Idx w base g m v xs) (hi : xs.findIdx? (fun b => eqk k b) = some i) (hl : i < xs.length) :
    Calls Try.prog 29 #[.pointer (some ⟨g, 0, none⟩), encP k] w fun e w' => e = .returned (.int .i64 ((i : Int) + 1)) ∧ Below w.heap.size w w' := by
  obtain ⟨A, c, rfl⟩ := own_slice h.row
  have HH := Lib.hid h
  have HLK := Lib.hid (fun (W : World) (h : Idx W base g m (.slice A xs.length c) xs) => show (Instr.lookup 91 (.map (some m)) (encP k) true).run Try.prog W = .ok (.tuple #[.int .i64 ((i : Int) + 1), .bool true]) W from by
    have := run_look key Try.underlying91 (zero3 W) h.raw k
    rw [lkVal_some hi, lkOk_some hi] at this
    rw [this]
    simp [vals, hl])
  clear h hi hl
  go_enter Try.func29, Try.ntmps29
  go_wp2_with (first | ((with_reducible refine gate_dst (N := 3) rfl ?_); refine box_event rfl (N := 3) rfl (cs := #[.int .i64 k.1, .int .i64 k.2]) (t := 48) ?hr ?_; (case hr => first | (go_simp; done) | (go_simp; rfl)); intro b3 hg_ w1 hb3 hB1; have HL3 := Lib.hid (show w.heap.size ≤ b3 from by rw [hg_]; exact Nat.le_refl _); clear hg_; have d0 := (blk_cell hb3 0).trans (Eq.refl (some (Value.int .i64 k.1))); have d1 := (blk_cell hb3 1).trans (Eq.refl (some (Value.int .i64 k.2))); have hI1 := idx_below HH.out hB1; have HI1 := Lib.hid hI1; have hc0 := (cell_of hI1.blk 0).1; have hc1 := (cell_of hI1.blk 1).1; have hlk := fun n => HLK.out (w1.drewN n) (idx_below hI1 (pw_below_drewN (Below.refl _ _) n)); have HB1 := Lib.hid hB1; have HB3 := Lib.hid hb3; clear hb3 hB1 hI1))
  go_quiet (fail)
  go_wp2
  go_ret
  exact ⟨rfl, pw_below_drewN HB1.out _⟩
theorem find_found (k : (Int × Int)) (xs : List (Int × Int)) (i : Nat) (base g m : Nat) (v : Value) (w : World) (h : Idx w base g m v xs) (hi : xs.findIdx? (fun b => eqk k b) = some i) (hl : i < xs.length) :
    Calls Try.prog 30 #[.pointer (some ⟨g, 0, none⟩), encP k] w fun e w' => e = .returned (.tuple #[.int .i64 ((i : Int) + 1), .bool true]) ∧ Below w.heap.size w w' := by
  obtain ⟨A, c, rfl⟩ := own_slice h.row
  have HH := Lib.hid h
  have HLK := Lib.hid (fun (W : World) (h : Idx W base g m (.slice A xs.length c) xs) => show (Instr.lookup 91 (.map (some m)) (encP k) true).run Try.prog W = .ok (.tuple #[.int .i64 ((i : Int) + 1), .bool true]) W from by
    have := run_look key Try.underlying91 (zero3 W) h.raw k
    rw [lkVal_some hi, lkOk_some hi] at this
    rw [this]
    simp [vals, hl])
  clear h hi hl
  go_enter Try.func30, Try.ntmps30
  go_wp2_with (first | ((with_reducible refine gate_dst (N := 3) rfl ?_); refine box_event rfl (N := 3) rfl (cs := #[.int .i64 k.1, .int .i64 k.2]) (t := 48) ?hr ?_; (case hr => first | (go_simp; done) | (go_simp; rfl)); intro b3 hg_ w1 hb3 hB1; have HL3 := Lib.hid (show w.heap.size ≤ b3 from by rw [hg_]; exact Nat.le_refl _); clear hg_; have d0 := (blk_cell hb3 0).trans (Eq.refl (some (Value.int .i64 k.1))); have d1 := (blk_cell hb3 1).trans (Eq.refl (some (Value.int .i64 k.2))); have hI1 := idx_below HH.out hB1; have HI1 := Lib.hid hI1; have hc0 := (cell_of hI1.blk 0).1; have hc1 := (cell_of hI1.blk 1).1; have hlk := fun n => HLK.out (w1.drewN n) (idx_below hI1 (pw_below_drewN (Below.refl _ _) n)); have HB1 := Lib.hid hB1; have HB3 := Lib.hid hb3; clear hb3 hB1 hI1))
  go_quiet (fail)
  go_wp2
  go_ret2
  exact ⟨rfl, pw_below_drewN HB1.out _⟩
theorem find_none (k : (Int × Int)) (xs : List (Int × Int)) (base g m : Nat) (v : Value) (w : World) (h : Idx w base g m v xs) (hi : xs.findIdx? (fun b => eqk k b) = none) :
    Calls Try.prog 30 #[.pointer (some ⟨g, 0, none⟩), encP k] w fun e w' => e = .returned (.tuple #[.int .i64 0, .bool false]) ∧ Below w.heap.size w w' := by
  obtain ⟨A, c, rfl⟩ := own_slice h.row
  have HH := Lib.hid h
  have HLK := Lib.hid (fun (W : World) (h : Idx W base g m (.slice A xs.length c) xs) => show (Instr.lookup 91 (.map (some m)) (encP k) true).run Try.prog W = .ok (.tuple #[.int .i64 0, .bool false]) W from by
    have := run_look key Try.underlying91 (zero3 W) h.raw k
    rw [lkVal_none hi, lkOk_none hi] at this
    rw [this])
  clear h hi
  go_enter Try.func30, Try.ntmps30
  go_wp2_with (first | ((with_reducible refine gate_dst (N := 3) rfl ?_); refine box_event rfl (N := 3) rfl (cs := #[.int .i64 k.1, .int .i64 k.2]) (t := 48) ?hr ?_; (case hr => first | (go_simp; done) | (go_simp; rfl)); intro b3 hg_ w1 hb3 hB1; have HL3 := Lib.hid (show w.heap.size ≤ b3 from by rw [hg_]; exact Nat.le_refl _); clear hg_; have d0 := (blk_cell hb3 0).trans (Eq.refl (some (Value.int .i64 k.1))); have d1 := (blk_cell hb3 1).trans (Eq.refl (some (Value.int .i64 k.2))); have hI1 := idx_below HH.out hB1; have HI1 := Lib.hid hI1; have hc0 := (cell_of hI1.blk 0).1; have hc1 := (cell_of hI1.blk 1).1; have hlk := fun n => HLK.out (w1.drewN n) (idx_below hI1 (pw_below_drewN (Below.refl _ _) n)); have HB1 := Lib.hid hB1; have HB3 := Lib.hid hb3; clear hb3 hB1 hI1))
  go_quiet (fail)
  go_wp2
  go_ret2
  exact ⟨rfl, pw_below_drewN HB1.out _⟩
theorem of_full (k : (Int × Int)) (xs : List (Int × Int)) (base g m : Nat) (v : Value) (w : World) (h : Idx w base g m v xs) (hi : xs.findIdx? (fun b => eqk k b) = none) (hl : 1048576 ≤ xs.length) :
    Calls Try.prog 29 #[.pointer (some ⟨g, 0, none⟩), encP k] w fun e w' => e = .returned (.int .i64 0) ∧ Below w.heap.size w w' := by
  obtain ⟨A, c, rfl⟩ := own_slice h.row
  have HH := Lib.hid h
  have HLK := Lib.hid (fun (W : World) (h : Idx W base g m (.slice A xs.length c) xs) => show (Instr.lookup 91 (.map (some m)) (encP k) true).run Try.prog W = .ok (.tuple #[.int .i64 0, .bool false]) W from by
    have := run_look key Try.underlying91 (zero3 W) h.raw k
    rw [lkVal_none hi, lkOk_none hi] at this
    rw [this])
  have hle : decide ((1048576 : Int) ≤ (xs.length : Int)) = true := decide_eq_true (by omega)
  clear h hi hl
  go_enter Try.func29, Try.ntmps29
  go_wp2_with (first | ((with_reducible refine gate_dst (N := 3) rfl ?_); refine box_event rfl (N := 3) rfl (cs := #[.int .i64 k.1, .int .i64 k.2]) (t := 48) ?hr ?_; (case hr => first | (go_simp; done) | (go_simp; rfl)); intro b3 hg_ w1 hb3 hB1; have HL3 := Lib.hid (show w.heap.size ≤ b3 from by rw [hg_]; exact Nat.le_refl _); clear hg_; have d0 := (blk_cell hb3 0).trans (Eq.refl (some (Value.int .i64 k.1))); have d1 := (blk_cell hb3 1).trans (Eq.refl (some (Value.int .i64 k.2))); have hI1 := idx_below HH.out hB1; have HI1 := Lib.hid hI1; have hc0 := (cell_of hI1.blk 0).1; have hc1 := (cell_of hI1.blk 1).1; have hlk := fun n => HLK.out (w1.drewN n) (idx_below hI1 (pw_below_drewN (Below.refl _ _) n)); have HB1 := Lib.hid hB1; have HB3 := Lib.hid hb3; clear hb3 hB1 hI1))
  go_quiet (fail)
  go_wp2
  go_ret
  exact ⟨rfl, pw_below_drewN HB1.out _⟩
theorem len_calls (xs : List (Int × Int)) (base g m : Nat) (v : Value) (w : World) (h : Idx w base g m v xs) :
    Calls Try.prog 32 #[.pointer (some ⟨g, 0, none⟩)] w fun e w' => e = .returned (.int .i64 (xs.length : Int)) ∧ w' = w := by
  have hc1 := (cell_of h.blk 1).1
  obtain ⟨A, c, rfl⟩ := own_slice h.row
  clear h
  go_enter Try.func32, Try.ntmps32
  go_wp2
  go_ret
  exact ⟨rfl, rfl⟩

set_option maxRecDepth 100000 in
theorem of_new (k : (Int × Int)) (xs : List (Int × Int)) (base g m : Nat) (v : Value) (w : World) (h : Idx w base g m v xs) (hi : xs.findIdx? (fun b => eqk k b) = none) (hl : xs.length < 1048576) :
    Calls Try.prog 29 #[.pointer (some ⟨g, 0, none⟩), encP k] w fun e w' => e = .returned (.int .i64 ((xs.length : Int) + 1)) ∧ ∃ v', Idx w' base g m v' (xs ++ [k]) ∧ Below base w w' ∧ Kept w w' (fun i => i = g ∨ i = m ∨ some i = v.ownBlock) ∧ (v'.ownBlock = v.ownBlock ∨ ∃ b, v'.ownBlock = some b ∧ w.heap.size ≤ b) := by
  obtain ⟨A, c, rfl⟩ := own_slice h.row
  have HLK := Lib.hid (fun (W : World) (h : Idx W base g m (.slice A xs.length c) xs) => show (Instr.lookup 91 (.map (some m)) (encP k) true).run Try.prog W = .ok (.tuple #[.int .i64 0, .bool false]) W from by
    have := run_look key Try.underlying91 (zero3 W) h.raw k
    rw [lkVal_none hi, lkOk_none hi] at this
    rw [this])
  have hle : decide ((1048576 : Int) ≤ (xs.length : Int)) = false := decide_eq_false (by omega)
  have HL := Lib.hid hl
  have HI := Lib.hid hi
  have HH := Lib.hid h
  clear hl hi h
  go_enter Try.func29, Try.ntmps29
  go_wp2_with (first | ((with_reducible refine gate_dst (N := 3) rfl ?_); refine box_event rfl (N := 3) rfl (cs := #[.int .i64 k.1, .int .i64 k.2]) (t := 48) ?hr ?_; (case hr => first | (go_simp; done) | (go_simp; rfl)); intro b3 hg_ w1 hb3 hB1; have HL3 := Lib.hid (show w.heap.size ≤ b3 from by rw [hg_]; exact Nat.le_refl _); clear hg_; have d0 := (blk_cell hb3 0).trans (Eq.refl (some (Value.int .i64 k.1))); have d1 := (blk_cell hb3 1).trans (Eq.refl (some (Value.int .i64 k.2))); have hI1 := idx_below HH.out hB1; have HI1 := Lib.hid hI1; have hc0 := (cell_of hI1.blk 0).1; have hc1 := (cell_of hI1.blk 1).1; have hlk := fun n => HLK.out (w1.drewN n) (idx_below hI1 (pw_below_drewN (Below.refl _ _) n)); have HB1 := Lib.hid hB1; have HB3 := Lib.hid hb3; clear hb3 hB1 hI1))
  go_quiet (fail)
  refine any_drew (G := Exit.then) (w1 := w1) ?_ _
  intro w2 hw2
  have hI2 : Idx w2 base g m (.slice A xs.length c) xs := idx_below HI1.out (by obtain ⟨n, rfl⟩ := hw2; exact pw_below_drewN (Below.refl _ _) _)
  have hB2 : Below w.heap.size w w2 := by obtain ⟨n, rfl⟩ := hw2; exact pw_below_drewN HB1.out _
  have hb2 : w2.heap[b3]? = some (.cells #[.int .i64 k.1, .int .i64 k.2] 48 (0, 0)) := by obtain ⟨n, rfl⟩ := hw2; exact HB3.out
  have hc1 := (cell_of hI2.blk 1).1
  have HW2 := Lib.hid hw2
  have HI2 := Lib.hid hI2
  have HB2 := Lib.hid hB2
  have HK2 := Lib.hid hb2
  clear hc0 d0 d1 hlk hw2 hI2 hB2 hb2
  go_wp2_with fail
  have d0 := (blk_cell HK2.out 0).trans (Eq.refl (some (Value.int .i64 k.1)))
  have d1 := (blk_cell HK2.out 1).trans (Eq.refl (some (Value.int .i64 k.2)))
  have HBB := Lib.hid (Nat.lt_of_lt_of_le (Array.getElem?_eq_some_iff.1 HK2.out).1 (Nat.le_refl w2.heap.size))
  have HSD := Lib.hid (show w.heap.size ≤ w2.drew.heap.size from HB2.out.size)
  have HBD := Lib.hid (show Below base w w2.drew from (below_drew HB2.out).mono (Nat.le_trans HH.out.hg (Nat.le_of_lt (Array.getElem?_eq_some_iff.1 HH.out.blk).1)))
  have HKD := Lib.hid (show Kept w w2.drew (fun i => i = g ∨ i = m ∨ some i = (Value.slice A xs.length c).ownBlock) from ⟨HSD.out, fun i hi _ => HB2.out.block i hi⟩)
  have mixed : Try.prog.follows .mixedOrders = true := by kernel_rfl
  have hc1' : w2.drew.cell? ⟨g, 1, none⟩ = some (.slice A xs.length c) := hc1
  have d0' : w2.drew.cell? ⟨b3, 0, none⟩ = some (.int .i64 k.1) := d0
  have d1' : w2.drew.cell? ⟨b3, 1, none⟩ = some (.int .i64 k.2) := d1
  have hI3 : Idx w2.drew base g m (.slice A xs.length c) xs := idx_below HI2.out (below_drew (Below.refl _ _))
  have hgl : g < w2.drew.heap.size := (Array.getElem?_eq_some_iff.1 hI3.blk).1
  have hbl : b3 < w2.drew.heap.size := (Array.getElem?_eq_some_iff.1 HK2.out).1
  have hc2 : (w2.alloc (.cells #[.int .i64 k.1, .int .i64 k.2] 48)).cell? ⟨g, 1, none⟩ = some (.slice A xs.length c) := (World.cell?_of_block (heap_old w2 _ hgl)).trans hc1'
  have hd2 : (w2.alloc (.cells #[.int .i64 k.1, .int .i64 k.2] 48)).cell? ⟨b3, 0, none⟩ = some (.int .i64 k.1) := (World.cell?_of_block (heap_old w2 _ hbl)).trans d0'
  have hd3 : (w2.alloc (.cells #[.int .i64 k.1, .int .i64 k.2] 48)).cell? ⟨b3, 1, none⟩ = some (.int .i64 k.2) := (World.cell?_of_block (heap_old w2 _ hbl)).trans d1'
  have HI3 := Lib.hid hI3
  have HNE := Lib.hid (show some g ≠ (Value.slice A xs.length c).ownBlock from own_ne hI3.row hI3.blk (by decide))
  clear hc1 d0 d1 hgl hbl hI3
  go_region_law (go_must (refine step_append_cells base (by rfl) _ _ 68 48 (.agg #[.int .i64 0, .int .i64 0]) 2 16 rfl Try.underlying68 info48 rfl (by decide) (by decide) (.slice A xs.length c) xs.length (cel xs) [.int .i64 k.1, .int .i64 k.2] rfl rfl rfl (by simp [Value.oneCell']) HI3.out.row (Below.refl base w2.drew) (Nat.le_trans HI3.out.hg (Nat.le_of_lt (Array.getElem?_eq_some_iff.1 HI3.out.blk).1)) (by have := HL.out; omega) ?_); intro v1 w4 hown hb4 hg4 hat; rw [show xs.length + 1 = (xs ++ [k]).length from by simp, show cel xs ++ [.int .i64 k.1, .int .i64 k.2] = cel (xs ++ [k]) from by rw [cel_app]; rfl] at hown; obtain ⟨A1, c1, hv⟩ := own_slice hown; subst hv; have hblk : w4.heap[g]? = some (.cells #[.map (some m), .slice A xs.length c] 93 (0, 0)) := (hg4.block g (Array.getElem?_eq_some_iff.1 HI3.out.blk).1 HNE.out).trans HI3.out.blk; have hf1 := (cell_of hblk 1).2; have hg1_ := (cell_of hblk 1).1; have HOW := Lib.hid hown; have HB4 := Lib.hid hb4; have HG4 := Lib.hid hg4; have HAT := Lib.hid hat; have HBK := Lib.hid hblk; clear hown hb4 hg4 hat hblk)
  all_goals
    have HBK2 := Lib.hid (blk_set HBK.out 1 (.slice A1 (xs.length + 1) c1))
    have HRR := Lib.hid (HI3.out.raw.move (HG4.out.block m HI3.out.raw.lt (raw_ne HI3.out.raw HI3.out.row)))
    have HR2 := Lib.hid (show IsRaw (w4.setCell ⟨g, 1, none⟩ (.slice A1 (xs.length + 1) c1)) m (xs.map encP) (vals xs.length) from HRR.out.move (Below.heap_setCell _ ⟨g, 1, none⟩ _ m (fun e => raw_ne_blk HRR.out HBK.out e)))
    have HK4 := Lib.hid ((HG4.out.block b3 HBB.out (fun e => by have := own_lt HH.out.row b3 e.symm; have := HL3.out; omega)).trans HK2.out)
    have HK5 := Lib.hid ((Below.heap_setCell w4 ⟨g, 1, none⟩ (.slice A1 (xs.length + 1) c1) b3 (fun e => blk_ne HK4.out HBK.out (by decide) e)).trans HK4.out)
    obtain ⟨V2, hV2⟩ : ∃ V2, V2 = w4.setCell ⟨g, 1, none⟩ (.slice A1 (xs.length + 1) c1) := ⟨_, rfl⟩
    rw [← hV2] at HBK2 HR2 HK5 ⊢
    clear hc1' d0' d1' hc2 hd2 hd3 hf1 hg1_
    go_wp2_with fail
    refine wp_region_still_tail 10 (by kernel_rfl) (by kernel_rfl) ?_
    obtain ⟨V3, hV3⟩ : ∃ V3 : World, V3 = { V2 with drawn := V2.drawn + 1 } := ⟨_, rfl⟩
    rw [← hV3]
    have HBK3 := Lib.hid (show V3.heap[g]? = some (.cells #[.map (some m), .slice A1 (xs.length + 1) c1] 93 (0, 0)) from by rw [hV3]; exact HBK2.out)
    have hk0 := (cell_of HBK3.out 0).1
    have hk1 := (cell_of HBK3.out 1).1
    have HKK3 := Lib.hid (show V3.heap[b3]? = some (.cells #[.int .i64 k.1, .int .i64 k.2] 48 (0, 0)) from by rw [hV3]; exact HK5.out)
    have hk2 := (blk_cell HKK3.out 0).trans (Eq.refl (some (Value.int .i64 k.1)))
    have hk3 := (blk_cell HKK3.out 1).trans (Eq.refl (some (Value.int .i64 k.2)))
    have HR3 := Lib.hid (show IsRaw V3 m (xs.map encP) (vals xs.length) from by rw [hV3]; exact HR2.out)
    have HV3 := Lib.hid hV3
    have HV2 := Lib.hid hV2
    clear hV3 hV2
    simp only [List.take_succ_cons, List.take_zero, List.drop_succ_cons, List.drop_zero]
    repeat still_step
    try refine wpStill_nil ?_
    go_wp2_with (at_mapUpdate; go_must (refine wpList_new rfl _ _ _ rfl key Try.underlying91 rfl HR3.out k rfl (.int .i64 ((xs.length : Int) + 1)) rfl HI.out ?_); intro es cl hraw; have hbk4 : (ChangeMaps.setBlock V3 m (.map es cl)).heap[g]? = some (.cells #[.map (some m), .slice A1 (xs.length + 1) c1] 93 (0, 0)) := ((set_other (Ne.symm (raw_ne_blk HR3.out HBK3.out))).trans HBK3.out); have hj1 := (cell_of hbk4 1).1; have HBK4 := Lib.hid hbk4; have HRW := Lib.hid hraw; clear hraw hbk4)
    go_ret
    obtain ⟨v', hv1, hv2, hv3, hv4⟩ := new_end k xs base g m A c _ HI3.out w4 A1 c1 HOW.out HB4.out HG4.out HAT.out V2 V3 HV2.out HV3.out es cl HRW.out
    exact ⟨rfl, v', hv1, HBD.out.trans hv2, HKD.out.then_ hv3 (fun _ h => .inl h), hv4.imp id fun ⟨b, hb, hle⟩ => ⟨b, hb, Nat.le_trans HSD.out hle⟩⟩
theorem row_cell {w : World} {base n c : Nat} {A : Option Addr} {xs : List (Int × Int)} (h : w.ownsRow base 48 2 (.slice A n c) n (cel xs)) (i : Nat) (hi : i < n) : ∃ b, A = some ⟨b, 0, none⟩ ∧ w.cell? ⟨b, i * 2, none⟩ = some (.int .i64 (xs.getD i (0, 0)).1) ∧ w.cell? ⟨b, i * 2 + 1, none⟩ = some (.int .i64 (xs.getD i (0, 0)).2) := by
  have hl : xs.length = n := by have := h.1; rw [cel_len] at this; omega
  rcases h.2 with ⟨he, h1⟩ | ⟨g', cap', cur, he, hb, hh, _⟩
  · injection he with _ h2
    omega
  · injection he with h1 h2 h3
    subst h1
    refine ⟨g', rfl, ?_⟩
    obtain ⟨p, hp⟩ : ∃ p, xs[i]? = some p := ⟨_, List.getElem?_eq_getElem (by omega)⟩
    have hg := cel_get xs i p hp
    have e : xs.getD i (0, 0) = p := by rw [List.getD_eq_getElem?_getD, hp]; rfl
    have c0 := h.cells (g := g') rfl (2 * i) _ hg.1
    have c1 := h.cells (g := g') rfl (2 * i + 1) _ hg.2
    rw [add_plain] at c0 c1
    rw [e, show i * 2 = 2 * i from Nat.mul_comm _ _]
    exact ⟨c0, c1⟩
theorem row_max {w : World} {base : Nat} {v : Value} {n : Nat} {xs : List Value} (h : w.ownsRow base 48 2 v n xs) : n ≤ 9223372036854775807 := by
  rcases h.2 with ⟨_, h0⟩ | ⟨_, _, _, _, _, _, _, h3, _⟩
  · have := h.1
    rw [h0] at this
    simp at this
    omega
  · simp only [maxLen] at h3
    omega
theorem res_at (tmps : Array Value) (W : World) (b : Nat) (cs : Array Value) (u : Value) (hp : tmps.getD 4 undef = .pointer (some ⟨b, 0, none⟩)) (hu : tmps.getD 5 undef = u) (hg : W.heap[b]? = some (.cells cs 48 (0, 0))) (hs : some 2 = some cs.size) : (results Try.f31 tmps).run Try.prog W = .ok (.tuple #[.agg cs, u]) W := by
  have hi : (Try.prog.info? 48).map (·.size) = some cs.size := (show (Try.prog.info? 48).map (·.size) = some 2 from by kernel_rfl).trans hs
  rw [results_cell_tmp rfl, hp, hu]
  simp [asAddr, run_loadVar_row W b 48 48 cs (0, 0) _ hg Try.underlying48 rfl hi, Result.andThen]
theorem at_found (n : Int) (xs : List (Int × Int)) (base g m : Nat) (v : Value) (w : World) (h : Idx w base g m v xs) (h1 : 1 ≤ n) (h2 : n ≤ xs.length) :
    Calls Try.prog 31 #[.pointer (some ⟨g, 0, none⟩), .int .i64 n] w fun e w' => e = .returned (.tuple #[encP (xs.getD (n - 1).toNat (0, 0)), .bool true]) ∧ Below w.heap.size w w' := by
  obtain ⟨A, c, rfl⟩ := own_slice h.row
  obtain ⟨j, rfl⟩ : ∃ j : Nat, n = (j : Int) + 1 := ⟨(n - 1).toNat, by omega⟩
  have hle := row_max h.row
  obtain ⟨b, rfl, _, _⟩ := row_cell h.row j (by omega)
  have HRC := Lib.hid (fun (W : World) (hW : Idx W base g m (.slice (some ⟨b, 0, none⟩) xs.length c) xs) => row_cell hW.row j (by omega))
  rw [show ((j : Int) + 1 - 1).toNat = j from by omega]
  have HH := Lib.hid h
  generalize xs.getD j (0, 0) = y at HRC ⊢
  clear h
  go_enter Try.func31, Try.ntmps31
  go_wp2_with (first | ((with_reducible refine gate_dst (N := 4) rfl ?_); refine box_event rfl (N := 4) rfl (cs := #[.int .i64 0, .int .i64 0]) (t := 48) ?hr ?_; (case hr => first | (go_simp; done) | (go_simp; rfl)); intro b4 hg_ w1 hb4 hB1; have d0 := (blk_cell hb4 0).trans (Eq.refl (some (Value.int .i64 0))); have d1 := (blk_cell hb4 1).trans (Eq.refl (some (Value.int .i64 0))); have hI1 := idx_below HH.out hB1; have HI1 := Lib.hid hI1; have hc1 := (cell_of hI1.blk 1).1; obtain ⟨b_, hb_, hx0, hx1⟩ := HRC.out w1 hI1; injection hb_ with hb_; injection hb_ with hb_; subst hb_; have HLT := Lib.hid (show w.heap.size ≤ b4 from by rw [hg_]; exact Nat.le_refl _); have HB1 := Lib.hid hB1; have HB4 := Lib.hid hb4; clear hb4 hB1 hI1 hg_) | ((with_reducible refine gate_ (.store 48 (.tmp 4) (.tmp 25)) rfl ?_); refine bstore (t := 48) (p := 4) (v := .tmp 25) rfl rfl rfl b4 _ #[.int .i64 y.1, .int .i64 y.2] (.agg #[.int .i64 y.1, .int .i64 y.2]) rfl rfl rfl HB4.out (by kernel_rfl) rfl (by simp [Value.oneCell']) ?_; intro w6 hb6 hs6 hz6 hB6; have HK6 := Lib.hid hb6; have HB6 := Lib.hid hB6; clear hb6 hs6 hz6 hB6))
  refine bodyPost_ret (res_at _ _ b4 _ _ rfl rfl HK6.out rfl) rfl ?_
  exact ⟨rfl, HB1.out.trans (HB6.out _ HLT.out)⟩
theorem at_low (n : Int) (xs : List (Int × Int)) (base g m : Nat) (v : Value) (w : World) (h : Idx w base g m v xs) (h1 : n < 1) :
    Calls Try.prog 31 #[.pointer (some ⟨g, 0, none⟩), .int .i64 n] w fun e w' => e = .returned (.tuple #[encP (0, 0), .bool false]) ∧ Below w.heap.size w w' := by
  obtain ⟨A, c, rfl⟩ := own_slice h.row
  have HH := Lib.hid h
  clear h
  go_enter Try.func31, Try.ntmps31
  go_wp2_with (first | ((with_reducible refine gate_dst (N := 4) rfl ?_); refine box_event rfl (N := 4) rfl (cs := #[.int .i64 0, .int .i64 0]) (t := 48) ?hr ?_; (case hr => first | (go_simp; done) | (go_simp; rfl)); intro b4 hg_ w1 hb4 hB1; have d0 := (blk_cell hb4 0).trans (Eq.refl (some (Value.int .i64 0))); have d1 := (blk_cell hb4 1).trans (Eq.refl (some (Value.int .i64 0))); have hI1 := idx_below HH.out hB1; have HI1 := Lib.hid hI1; have hc1 := (cell_of hI1.blk 1).1; have HLT := Lib.hid (show w.heap.size ≤ b4 from by rw [hg_]; exact Nat.le_refl _); have HB1 := Lib.hid hB1; have HB4 := Lib.hid hb4; clear hb4 hB1 hI1 hg_) | ((with_reducible refine gate_ (.store 48 (.tmp 4) (.tmp 17)) rfl ?_); refine bstore (t := 48) (p := 4) (v := .tmp 17) rfl rfl rfl b4 _ #[.int .i64 0, .int .i64 0] (.agg #[.int .i64 0, .int .i64 0]) rfl rfl rfl HB4.out (by kernel_rfl) rfl (by simp [Value.oneCell']) ?_; intro w6 hb6 hs6 hz6 hB6; have HK6 := Lib.hid hb6; have HB6 := Lib.hid hB6; clear hb6 hs6 hz6 hB6))
  refine bodyPost_ret (res_at _ _ b4 _ _ rfl rfl HK6.out rfl) rfl ?_
  exact ⟨rfl, HB1.out.trans (HB6.out _ HLT.out)⟩
theorem at_high (n : Int) (xs : List (Int × Int)) (base g m : Nat) (v : Value) (w : World) (h : Idx w base g m v xs) (h1 : (xs.length : Int) < n) :
    Calls Try.prog 31 #[.pointer (some ⟨g, 0, none⟩), .int .i64 n] w fun e w' => e = .returned (.tuple #[encP (0, 0), .bool false]) ∧ Below w.heap.size w w' := by
  obtain ⟨A, c, rfl⟩ := own_slice h.row
  have HH := Lib.hid h
  have h0 : decide (n < 1) = true ∨ decide (n < 1) = false := by cases decide (n < 1) <;> simp
  clear h
  rcases h0 with h0 | h0
  all_goals
    go_enter Try.func31, Try.ntmps31
    go_wp2_with (first | ((with_reducible refine gate_dst (N := 4) rfl ?_); refine box_event rfl (N := 4) rfl (cs := #[.int .i64 0, .int .i64 0]) (t := 48) ?hr ?_; (case hr => first | (go_simp; done) | (go_simp; rfl)); intro b4 hg_ w1 hb4 hB1; have d0 := (blk_cell hb4 0).trans (Eq.refl (some (Value.int .i64 0))); have d1 := (blk_cell hb4 1).trans (Eq.refl (some (Value.int .i64 0))); have hI1 := idx_below HH.out hB1; have HI1 := Lib.hid hI1; have hc1 := (cell_of hI1.blk 1).1; have HLT := Lib.hid (show w.heap.size ≤ b4 from by rw [hg_]; exact Nat.le_refl _); have HB1 := Lib.hid hB1; have HB4 := Lib.hid hb4; clear hb4 hB1 hI1 hg_) | ((with_reducible refine gate_ (.store 48 (.tmp 4) (.tmp 17)) rfl ?_); refine bstore (t := 48) (p := 4) (v := .tmp 17) rfl rfl rfl b4 _ #[.int .i64 0, .int .i64 0] (.agg #[.int .i64 0, .int .i64 0]) rfl rfl rfl HB4.out (by kernel_rfl) rfl (by simp [Value.oneCell']) ?_; intro w6 hb6 hs6 hz6 hB6; have HK6 := Lib.hid hb6; have HB6 := Lib.hid hB6; clear hb6 hs6 hz6 hB6))
    refine bodyPost_ret (res_at _ _ b4 _ _ rfl rfl HK6.out rfl) rfl ?_
    exact ⟨rfl, HB1.out.trans (HB6.out _ HLT.out)⟩
end Go.Proofs.Ytaeijlkogenblaa.IxP
