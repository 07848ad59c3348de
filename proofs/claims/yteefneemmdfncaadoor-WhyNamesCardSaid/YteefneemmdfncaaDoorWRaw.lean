import Derived.WalkKit
import Derived.Maps.OwnSet
/- Maps that only grow, told by their entries in the order in which they came: any key type whose equality is a Bool function (floats that are no numbers too). No condition. -/
namespace Go.Proofs.YteefneemmdfncaaDoorW.Raw
open Go.RowKit Go.ChangeMaps Go.MapKept

/-- Block b is a map with these keys and these values, in the order in which they came. -/
def IsRaw (w : World) (b : Nat) (ks vs : List Value) : Prop := ∃ es clock, w.heap[b]? = some (.map es clock) ∧ es.toList.map (·.key) = ks ∧ es.toList.map (·.val) = vs

structure Key (P : Program) (K : TypeId) {α : Type} (enc : α → Value) (eq : α → α → Bool) : Prop where
  check : ∀ (w : World) (b : Bool) (x : α), (Instr.checkKey b 10000 K (enc x)).run P w = .ok () w
  find : ∀ (w : World) (x : α) (es : List MapEntry) (xs : List α), es.map (·.key) = xs.map enc →
    (Instr.findKey K (enc x) es).run P w = .ok ((xs.findIdx? (eq x)).map fun i => (i, (es.map (·.val)).getD i default)) w

def lkVal {α : Type} (eq : α → α → Bool) (z : Value) (xs : List α) (vs : List Value) (k : α) : Value := match xs.findIdx? (eq k) with | some i => vs.getD i default | none => z
def lkOk {α : Type} (eq : α → α → Bool) (xs : List α) (k : α) : Bool := (xs.findIdx? (eq k)).isSome
theorem lkOk_some {α : Type} {eq : α → α → Bool} {xs : List α} {k : α} {i : Nat} (h : xs.findIdx? (eq k) = some i) : lkOk eq xs k = true := by simp only [lkOk, h, Option.isSome_some]
theorem lkOk_none {α : Type} {eq : α → α → Bool} {xs : List α} {k : α} (h : xs.findIdx? (eq k) = none) : lkOk eq xs k = false := by simp only [lkOk, h, Option.isSome_none]
theorem lkVal_some {α : Type} {eq : α → α → Bool} {z : Value} {xs : List α} {vs : List Value} {k : α} {i : Nat} (h : xs.findIdx? (eq k) = some i) : lkVal eq z xs vs k = vs.getD i default := by simp only [lkVal, h]
theorem lkVal_none {α : Type} {eq : α → α → Bool} {z : Value} {xs : List α} {vs : List Value} {k : α} (h : xs.findIdx? (eq k) = none) : lkVal eq z xs vs k = z := by simp only [lkVal, h]

section
variable {P : Program} {K t e : TypeId} {α : Type} {enc : α → Value} {eq : α → α → Bool} {w : World} {b : Nat} {xs : List α} {vs : List Value} {z : Value}

theorem IsRaw.len (h : IsRaw w b (xs.map enc) vs) : vs.length = xs.length := by
  obtain ⟨es, clock, _, h1, h2⟩ := h
  have := congrArg List.length h1
  have := congrArg List.length h2
  simp at *
  omega
theorem IsRaw.lt {ks : List Value} (h : IsRaw w b ks vs) : b < w.heap.size := by
  obtain ⟨es, clock, hb, _⟩ := h
  exact (Array.getElem?_eq_some_iff.1 hb).1
theorem IsRaw.move {ks : List Value} {w' : World} (h : IsRaw w b ks vs) (hb : w'.heap[b]? = w.heap[b]?) : IsRaw w' b ks vs := by
  obtain ⟨es, clock, h0, h1, h2⟩ := h
  exact ⟨es, clock, hb.trans h0, h1, h2⟩

theorem run_look (hK : Key P K enc eq) (ht : P.underlying t = some (.map K e)) (hz : (zeroValue e).run P w = .ok z w) (h : IsRaw w b (xs.map enc) vs) (x : α) :
    (Instr.lookup t (.map (some b)) (enc x) true).run P w = .ok (.tuple #[lkVal eq z xs vs x, .bool (lkOk eq xs x)]) w := by
  obtain ⟨es, clock, hb, h1, h2⟩ := h
  have hf := hK.find w x es.toList xs h1
  cases hi : xs.findIdx? (eq x) with
  | none =>
    rw [hi] at hf
    rw [lkVal_none hi]
    simp [lkOk_none hi, Instr.lookup, run_underlying ht, MapKept.run_getObj_map hb, hK.check, hf, hz, Result.andThen]
  | some i =>
    rw [hi, h2] at hf
    rw [lkVal_some hi]
    simp [lkOk_some hi, Instr.lookup, run_underlying ht, MapKept.run_getObj_map hb, hK.check, hf, Result.andThen]

theorem run_look1 (hK : Key P K enc eq) (ht : P.underlying t = some (.map K e)) (hz : (zeroValue e).run P w = .ok z w) (h : IsRaw w b (xs.map enc) vs) (x : α) :
    (Instr.lookup t (.map (some b)) (enc x) false).run P w = .ok (lkVal eq z xs vs x) w := by
  obtain ⟨es, clock, hb, h1, h2⟩ := h
  have hf := hK.find w x es.toList xs h1
  cases hi : xs.findIdx? (eq x) with
  | none =>
    rw [hi] at hf
    rw [lkVal_none hi]
    simp [Instr.lookup, run_underlying ht, MapKept.run_getObj_map hb, hK.check, hf, hz, Result.andThen]
  | some i =>
    rw [hi, h2] at hf
    rw [lkVal_some hi]
    simp [Instr.lookup, run_underlying ht, MapKept.run_getObj_map hb, hK.check, hf, Result.andThen]

/-- A new key. -/
theorem run_new (hK : Key P K enc eq) (ht : P.underlying t = some (.map K e)) (h : IsRaw w b (xs.map enc) vs) (x : α) (v : Value) (hn : xs.findIdx? (eq x) = none) :
    ∃ es c, (Instr.mapUpdate t (.map (some b)) (enc x) v).run P w = .ok () (setBlock w b (.map es c)) ∧ IsRaw (setBlock w b (.map es c)) b ((xs ++ [x]).map enc) (vs ++ [v]) := by
  obtain ⟨es, clock, hb, h1, h2⟩ := h
  have hf := hK.find w x es.toList xs h1
  rw [hn] at hf
  refine ⟨es.push { key := enc x, val := v, born := clock }, clock + 1, ?_, ⟨_, _, heap_setBlock_same hb _, by simp [h1], by simp [h2]⟩⟩
  simp [Instr.mapUpdate, run_underlying ht, MapKept.run_getObj_map hb, hK.check, hf, Result.andThen, MapKept.run_setObj_map _ hb, setBlock]

/-! ### at the operation -/
variable {ops : Array Oper} {rest : List Oper} {o : Oper} {a : Act} {Q : Exit → Act → World → Prop}
theorem wpList_new (hg : o.guard = none) (m x v : Operand) (hop : o.op = Op.mapUpdate t m x v) (hK : Key P K enc eq) (ht : P.underlying t = some (.map K e))
    (hm : a.eval m = .map (some b)) (h : IsRaw w b (xs.map enc) vs) (k : α) (hx : a.eval x = enc k) (u : Value) (hv : a.eval v = u) (hn : xs.findIdx? (eq k) = none)
    (hk : ∀ es c, IsRaw (setBlock w b (.map es c)) b ((xs ++ [k]).map enc) (vs ++ [u]) → wpList P ops Q rest (a.put o.dst undef) (setBlock w b (.map es c))) : wpList P ops Q (o :: rest) a w := by
  refine wpList_plain hg fun K' hK' => ?_
  obtain ⟨es, c, h1, h2⟩ := run_new hK ht h k u hn
  unfold Oper.wp
  simp [execOp, hop, hm, hx, hv, h1, Result.andThen]
  exact hK' _ _ (hk es c h2)
end

/-! ### keys -/
theorem check_plain {P : Program} {K : TypeId} {kd : TypeDesc} {v : Value} (hu : P.underlying K = some kd) (h1 : ∀ m, kd ≠ .interface m) (h2 : ∀ n e, kd ≠ .array n e) (h3 : ∀ fs, kd ≠ .struct fs) (w : World) (b : Bool) (n : Nat) : (Instr.checkKey b (n + 1) K v).run P w = .ok () w := by
  unfold Instr.checkKey
  simp only [Sem.run_bind, run_underlying hu, Result.andThen]
  split <;> simp_all
theorem findNow_of {α : Type} {enc : α → Value} {eq : α → α → Bool} {kd : TypeDesc} (h : ∀ x y, Instr.sameNow kd (enc x) (enc y) = some (eq x y)) (x : α) : ∀ (es : List MapEntry) (xs : List α) (n : Nat), es.map (·.key) = xs.map enc →
    Instr.findNow kd (enc x) es n = some ((xs.findIdx? (eq x)).map fun i => (n + i, (es.map (·.val)).getD i default)) := by
  intro es
  induction es with
  | nil => intro xs n hx; cases xs with
    | nil => simp [Instr.findNow]
    | cons y ys => simp at hx
  | cons e es ih => intro xs n hx; cases xs with
    | nil => simp at hx
    | cons y ys =>
      simp at hx
      obtain ⟨h1, h2⟩ := hx
      simp only [Instr.findNow, h1, h]
      cases he : eq x y with
      | true => simp [List.findIdx?_cons, he]
      | false =>
        simp only [ih ys (n + 1) (by simpa using h2), List.findIdx?_cons, he]
        cases ys.findIdx? (eq x) with
        | none => simp
        | some i => simp; omega
theorem key_now {P : Program} {K : TypeId} {α : Type} {enc : α → Value} {eq : α → α → Bool} {kd : TypeDesc} (hu : P.underlying K = some kd) (hc : ∀ (w : World) (b : Bool) (x : α), (Instr.checkKey b 10000 K (enc x)).run P w = .ok () w) (h : ∀ x y, Instr.sameNow kd (enc x) (enc y) = some (eq x y)) : Key P K enc eq :=
  ⟨hc, fun w x es xs hx => by
    have h1 := findNow_of h x es xs 0 hx
    simp [Instr.findKey, run_underlying hu, h1, Result.andThen]⟩
theorem key_string {P : Program} {K : TypeId} (hu : P.underlying K = some .string) : Key P K Value.string (fun a b => a == b) :=
  key_now hu (fun w b x => check_plain hu (by simp) (by simp) (by simp) w b 9999) (fun x y => rfl)
end Go.Proofs.YteefneemmdfncaaDoorW.Raw
