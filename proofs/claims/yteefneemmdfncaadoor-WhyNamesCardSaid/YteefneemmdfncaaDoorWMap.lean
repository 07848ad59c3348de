import Derived.Test.YteefneemmdfncaaDoorWRaw
import Derived.Test.YteefneemmdfncaaDoorWKept
import Derived.Test.YteefneemmdfncaaDoorWWords
/- More of maps that only grow: an entry written over, what is kept, and how they stand beside other blocks. No condition. -/
namespace Go.Proofs.YteefneemmdfncaaDoorW.Raw
open Go.RowKit Go.ChangeMaps Go.MapKept Go.Proofs.YteefneemmdfncaaDoorW.PrintWords
set_option linter.unusedVariables false

theorem heap_new (w : World) (o : Obj) : (w.alloc o).heap[w.heap.size]? = some o := by show (w.heap.push o)[w.heap.size]? = some o; simp
theorem heap_old (w : World) (o : Obj) {i : Nat} (h : i < w.heap.size) : (w.alloc o).heap[i]? = w.heap[i]? := by show (w.heap.push o)[i]? = _; rw [Array.getElem?_push]; simp; omega
theorem size_new (w : World) (o : Obj) : (w.alloc o).heap.size = w.heap.size + 1 := Array.size_push ..
theorem set_other {w : World} {m i : Nat} {o : Obj} (h : i ≠ m) : (ChangeMaps.setBlock w m o).heap[i]? = w.heap[i]? := by
  show (w.heap.setIfInBounds m o)[i]? = _
  rw [Array.getElem?_setIfInBounds, if_neg (Ne.symm h)]
theorem set_size {w : World} {m : Nat} {o : Obj} : (ChangeMaps.setBlock w m o).heap.size = w.heap.size := by
  show (w.heap.setIfInBounds m o).size = _
  simp
theorem lt_of_get {w : World} {i : Nat} {o : Obj} (h : w.heap[i]? = some o) : i < w.heap.size := (Array.getElem?_eq_some_iff.1 h).1
theorem raw_ne {w : World} {m base n size : Nat} {e : TypeId} {ks vs xs : List Value} {v : Value} (h : IsRaw w m ks vs) (ho : w.ownsRow base e size v n xs) : some m ≠ v.ownBlock := by
  obtain ⟨es, cl, hb, _⟩ := h
  rcases ho.2 with ⟨rfl, _⟩ | ⟨g', cap, cur, rfl, hg, hh, _⟩
  · simp [Value.ownBlock]
  · intro he
    have : m = g' := by simpa [Value.ownBlock] using he
    subst this
    rw [hb] at hh
    cases hh
theorem raw_ne_blk {w : World} {m g t : Nat} {ks vs : List Value} {cs : Array Value} (h : IsRaw w m ks vs) (hb : w.heap[g]? = some (.cells cs t (0, 0))) : m ≠ g := by
  obtain ⟨es, cl, hm, _⟩ := h
  rintro rfl
  rw [hm] at hb
  cases hb
theorem below_set_map {base m : Nat} {w W : World} {es : Array MapEntry} {c : Nat} (h : Below base w W) (hm : base ≤ m) : Below base w (ChangeMaps.setBlock W m (.map es c)) :=
  ⟨h.os, h.tape, h.output, by rw [set_size]; exact h.size, fun i hi => (set_other (by omega)).trans (h.block i hi)⟩
theorem IsRaw.below {w w' : World} {b : Nat} {ks vs : List Value} (h : IsRaw w b ks vs) (hb : Below w.heap.size w w') : IsRaw w' b ks vs := h.move (hb.block b h.lt)

section
variable {P : Program} {K t e : TypeId} {α : Type} {enc : α → Value} {eq : α → α → Bool} {w : World} {b : Nat} {xs : List α} {vs : List Value} {z : Value}
/-- A key that is there: its value is written over. -/
theorem run_over (hK : Key P K enc eq) (ht : P.underlying t = some (.map K e)) (h : IsRaw w b (xs.map enc) vs) (x : α) (v : Value) {i : Nat} (hi : xs.findIdx? (eq x) = some i) (hx : xs[i]? = some x) (hs : Instr.sameBits 10000 (enc x) (enc x) = true) :
    ∃ es c, (Instr.mapUpdate t (.map (some b)) (enc x) v).run P w = .ok () (setBlock w b (.map es c)) ∧ IsRaw (setBlock w b (.map es c)) b (xs.map enc) (vs.set i v) := by
  obtain ⟨es, clock, hb, h1, h2⟩ := h
  have hf := hK.find w x es.toList xs h1
  rw [hi] at hf
  have hl : i < es.size := by
    have := (List.findIdx?_eq_some_iff_getElem.1 hi).1
    have h3 := congrArg List.length h1
    simp at h3
    omega
  have hk : es[i].key = enc x := by
    have h3 := congrArg (fun l => l[i]?) h1
    simp only [List.getElem?_map, hx, Array.getElem?_toList, Array.getElem?_eq_getElem hl, Option.map_some] at h3
    injection h3
  have hks : (Instr.keyThatStays es[i].key (enc x)).run P w = .ok (enc x) w := by
    rw [hk]
    simp [Instr.keyThatStays, hs]
  refine ⟨es.modify i fun en => { en with key := enc x, val := v }, clock, ?_, ⟨_, _, heap_setBlock_same hb _, ?_, ?_⟩⟩
  · simp [Instr.mapUpdate, run_underlying ht, MapKept.run_getObj_map hb, hK.check, hf, Result.andThen, MapKept.run_setObj_map _ hb, setBlock, Array.getElem?_eq_getElem hl, hks]
  · rw [← h1]
    apply List.ext_getElem
    · simp
    · intro j h3 h4
      simp only [List.getElem_map, Array.getElem_toList, Array.getElem_modify]
      split
      · rename_i e; subst e; exact hk.symm
      · rfl
  · rw [← h2]
    apply List.ext_getElem
    · simp
    · intro j h3 h4
      simp only [List.getElem_map, Array.getElem_toList, Array.getElem_modify, List.getElem_set]
      split <;> rfl
variable {ops : Array Oper} {rest : List Oper} {o : Oper} {a : Act} {Q : Exit → Act → World → Prop}
end
theorem bstore {P : Program} {ops : Array Oper} {rest : List Oper} {o : Oper} {a : Act} {Q : Exit → Act → World → Prop} {W : World} {t e : TypeId} {p : Tmp} {v : Operand} (hg : o.guard = none) (ho : o.op = .store t (.tmp p) v) (hN : o.dst = none) (g : Nat) (cur seg : Array Value) (u : Value)
    (hp : a.eval (.tmp p) = .pointer (some ⟨g, 0, none⟩)) (hv : a.eval v = u) (hu : u.cells.toList = seg.toList) (hh : W.heap[g]? = some (.cells cur e (0, 0))) (ht : (P.info? t).map (·.size) = some seg.size) (hsz : cur.size = seg.size) (h1 : ∀ q ∈ seg.toList, q.oneCell' = true)
    (h : ∀ w1 : World, w1.heap[g]? = some (.cells seg e (0, 0)) → (∀ i, i ≠ g → w1.heap[i]? = W.heap[i]?) → w1.heap.size = W.heap.size → (∀ B, B ≤ g → Below B W w1) → wpList P ops Q rest a w1) : wpList P ops Q (o :: rest) a W := by
  have hrun := run_store_run (P := P) (w := W) (o := 0) t u seg.toList hh hu (by rw [ht, Array.length_toList]) (by rw [Array.length_toList]; omega) h1
  obtain ⟨cur', h3, h4, h5⟩ := setCells_row seg.toList 0 W cur hh (by rw [Array.length_toList]; omega)
  have e5 : cur' = seg := by
    apply Array.ext'
    rw [h5, List.take_zero, List.nil_append, List.drop_of_length_le (by rw [Array.length_toList, Array.length_toList]; omega), List.append_nil]
  rw [e5] at h3
  obtain ⟨s1, s2, s3, s4⟩ := setCells_same g seg.toList 0 W
  refine store_event (w1 := W.setCells g 0 seg.toList) hg (t := t) (p := p) (v := v) ho hN ?_ (fun w' e => ?_)
  · simp only [execOp, ho, hp, hv]
    simp [hrun, Result.andThen]
  · subst e
    exact h _ h3 (fun i hi => setCells_far _ _ _ hi) s4 (fun B hB => ⟨s1, s2, s3, by rw [s4]; exact Nat.le_refl _, fun i hi => setCells_far _ _ _ (by omega)⟩)

theorem same_str (s : ByteArray) : Instr.sameBits 10000 (.string s) (.string s) = true := by
  show (s == s) = true
  exact (MapKept.bytes_beq s s).2 rfl
theorem find_none_of {xs : List ByteArray} {k : ByteArray} (h : k ∉ xs) : xs.findIdx? (fun b => k == b) = none := by
  rw [List.findIdx?_eq_none_iff]
  intro x hx
  cases hq : (k == x) with
  | false => rfl
  | true => rw [(MapKept.bytes_beq k x).1 hq] at h; exact absurd hx h
theorem find_some_of {xs : List ByteArray} {k : ByteArray} (h : k ∈ xs) : ∃ i, xs.findIdx? (fun b => k == b) = some i ∧ xs[i]? = some k := by
  cases hq : xs.findIdx? (fun b => k == b) with
  | none =>
    rw [List.findIdx?_eq_none_iff] at hq
    have := hq k h
    rw [(MapKept.bytes_beq k k).2 rfl] at this
    cases this
  | some i =>
    obtain ⟨hl, h1, _⟩ := List.findIdx?_eq_some_iff_getElem.1 hq
    exact ⟨i, rfl, by rw [List.getElem?_eq_getElem hl, (MapKept.bytes_beq k _).1 h1]⟩
end Go.Proofs.YteefneemmdfncaaDoorW.Raw
