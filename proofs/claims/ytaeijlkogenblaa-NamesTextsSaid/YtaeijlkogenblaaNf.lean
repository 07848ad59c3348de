/- NamesFloats: its parts. Conditions: each theorem's own. -/
import Derived.Test.YtaeijlkogenblaaIxFIt
import Derived.Test.YtaeijlkogenblaaWArr
import Derived.Test.YtaeijlkogenblaaWFloat
namespace Go.Proofs.Ytaeijlkogenblaa.Nf
open Go.RowKit Go.Shelf Go.Proofs.YtaeijlkogenblaaW.Raw Go.Proofs.YtaeijlkogenblaaW.PrintWords Go.Proofs.Ytaeijlkogenblaa.IxF
set_option linter.unusedVariables false

abbrev Stp := Int × ByteArray × Nat × List Int × Int × Int
def kSt : Kd Stp := Kd.pair (Kd.int .i64) (Kd.pair Kd.string (Kd.pair Kd.float (Kd.pair (Kd.arr 2 (Kd.int .i64) (by decide)) (Kd.pair (Kd.int .i64) (Kd.int .i64)))))
def zSt : Stp := (0, ByteArray.empty, 0, [0, 0], 0, 0)
def cellsOf (x : Stp) : List Value := [.int .i64 x.1, .string x.2.1, .float .f64 x.2.2.1, .int .i64 (x.2.2.2.1.getD 0 0), .int .i64 (x.2.2.2.1.getD 1 0), .int .i64 x.2.2.2.2.1, .int .i64 x.2.2.2.2.2]
theorem two_of {α : Type} {l : List α} (h : l.length = 2) : ∃ a b, l = [a, b] := by
  match l, h with
  | [a, b], _ => exact ⟨a, b, rfl⟩
theorem kSt_open {w : World} {x : Stp} {c : List Value} (h : kSt.K w x c) : c = cellsOf x ∧ ∃ p q, x.2.2.2.1 = [p, q] := by
  obtain ⟨c1, r1, rfl, h1, h⟩ := h
  obtain ⟨c2, r2, rfl, h2, h⟩ := h
  obtain ⟨c3, r3, rfl, h3, h⟩ := h
  obtain ⟨c4, r4, rfl, h4, h⟩ := h
  obtain ⟨c5, c6, rfl, h5, h6⟩ := h
  have e1 : c1 = [Value.int .i64 x.1] := h1
  have e2 : c2 = [Value.string x.2.1] := h2
  have e3 : c3 = [Value.float .f64 x.2.2.1] := h3
  have e5 : c5 = [Value.int .i64 x.2.2.2.2.1] := h5
  have e6 : c6 = [Value.int .i64 x.2.2.2.2.2] := h6
  obtain ⟨l4, e4⟩ := Kd.arr_cells (enc := Value.int .i64) (h1 := fun _ => rfl) h4
  obtain ⟨p, q, hpq⟩ := two_of l4
  refine ⟨?_, p, q, hpq⟩
  rw [e1, e2, e3, e4, e5, e6]
  unfold cellsOf
  rw [hpq]
  rfl
theorem at_st {w : World} {A : Option Addr} {n : Nat} {xs : List Stp} (h : Kd.C kSt w A n xs) (k : Nat) (h1 : k < n) : ∃ ad, A = some ad ∧ ∀ j u, (cellsOf (xs.getD k zSt))[j]? = some u → w.cell? (ad.add (k * 7 + j)) = some u := by
  obtain ⟨ad, c, e, _, hK, hc0⟩ := Kd.C_get h zSt (k : Int) (by omega) (by omega)
  obtain ⟨rfl, _⟩ := kSt_open hK
  exact ⟨ad, e, fun j u hu => hc0 j u hu⟩

theorem bstore {P : Program} {ops : Array Oper} {rest : List Oper} {o : Oper} {a : Act} {Q : Exit → Act → World → Prop} {W : World} {t e : TypeId} {p : Tmp} {v : Operand} (hg : o.guard = none) (ho : o.op = .store t (.tmp p) v) (hN : o.dst = none) (g : Nat) (cur seg : Array Value) (u : Value)
    (hp : a.eval (.tmp p) = .pointer (some ⟨g, 0, none⟩)) (hv : a.eval v = u) (hu : u.cells.toList = seg.toList) (hh : W.heap[g]? = some (.cells cur e (0, 0))) (ht : (P.info? t).map (·.size) = some seg.size) (hsz : cur.size = seg.size) (h1 : ∀ q ∈ seg.toList, q.oneCell' = true)
    (h : ∀ w1 : World, w1.heap[g]? = some (.cells seg e (0, 0)) → (∀ i, i ≠ g → w1.heap[i]? = W.heap[i]?) → w1.heap.size = W.heap.size → (∀ B, B ≤ g → Below B W w1) → wpList P ops Q rest a w1) : wpList P ops Q (o :: rest) a W := by
  have hrun := run_store_run (P := P) (w := W) (o := 0) t u seg.toList hh hu (by rw [ht, Array.length_toList]) (by rw [Array.length_toList]; omega) h1
  obtain ⟨cur', h3, h4, h5⟩ := setCells_row seg.toList 0 W cur hh (by rw [Array.length_toList]; omega)
  have e5 : cur' = seg := by
    apply Array.ext'
    rw [h5, List.take_zero, List.nil_append, List.drop_of_length_le (by rw [Array.length_toList, Array.length_toList]; omega), List.append_nil]
  rw [e5] at h3
  obtain ⟨s1, s2, s3, s4⟩ := setCells_same g seg.toList 0 W
  refine store_event (w1 := W.setCells g 0 seg.toList) hg (t := t) (p := p) (v := v) ho hN ?_ (fun w' e => ?_)
  · simp only [execOp, ho, hp, hv]
    simp [hrun, Result.andThen]
  · subst e
    exact h _ h3 (fun i hi => setCells_far _ _ _ hi) s4 (fun B hB => ⟨s1, s2, s3, by rw [s4]; exact Nat.le_refl _, fun i hi => setCells_far _ _ _ (by omega)⟩)

def alk (a b : Nat) : Bool := feq a b || ((!feq a a) && (!feq b b))
theorem alk_refl (a : Nat) : alk a a = true := by unfold alk; cases feq a a <;> rfl
attribute [local go_sem high] flt_eql flt_neq
set_option maxRecDepth 100000 in
theorem alike_calls (a b : Nat) (w : World) : Calls Try.prog 25 #[.float .f64 a, .float .f64 b] w fun e w' => e = .returned (.bool (alk a b)) ∧ w' = w := by
  unfold alk
  cases h1 : feq a b
  · cases h2 : feq a a
    · go_enter Try.func25, Try.ntmps25
      go_wp2
      all_goals (go_ret; exact ⟨by simp [*], rfl⟩)
    · go_enter Try.func25, Try.ntmps25
      go_wp2
      all_goals (go_ret; exact ⟨by simp [*], rfl⟩)
  · go_enter Try.func25, Try.ntmps25
    go_wp2
    all_goals (go_ret; exact ⟨by simp [*], rfl⟩)
theorem order_comm (x y : Ieee.Datum) (h : (x.order y == some .eq) = true) : (y.order x == some .eq) = true := by
  rw [beq_iff_eq] at h ⊢
  cases x <;> cases y <;> simp [Ieee.Datum.order] at h ⊢
  all_goals try (cases ‹Bool› <;> simp_all; done)
  all_goals first
    | (rw [Int.min_comm]; exact h.symm)
    | (split at h <;> cases h)
theorem feq_comm (a b : Nat) : feq a b = feq b a := by
  have h : ∀ a b, feq a b = true → feq b a = true := fun a b h => order_comm _ _ h
  cases h1 : feq a b <;> cases h2 : feq b a
  · rfl
  · rw [h b a h2] at h1; cases h1
  · rw [h a b h1] at h2; cases h2
  · rfl
def pl (xs : List Nat) (f : Nat) : Int := match xs.findIdx? (fun b => eqk f b) with | some i => (i : Int) | none => -1
theorem find_none {α : Type} {xs : List α} {q : α → Bool} {k : Nat} (h : ∀ j, j < k → ∀ y, xs[j]? = some y → q y = false) (hk : xs.length ≤ k) : xs.findIdx? q = none := by
  rw [List.findIdx?_eq_none_iff]
  intro y hy
  obtain ⟨j, hj⟩ := List.mem_iff_getElem?.1 hy
  exact h j (by have := (List.getElem?_eq_some_iff.1 hj).1; omega) y hj
theorem find_some {α : Type} {xs : List α} {q : α → Bool} {k : Nat} (h : ∀ j, j < k → ∀ y, xs[j]? = some y → q y = false) {y : α} (hy : xs[k]? = some y) (hq : q y = true) : xs.findIdx? q = some k := by
  obtain ⟨hk, e⟩ := List.getElem?_eq_some_iff.1 hy
  rw [List.findIdx?_eq_some_iff_getElem]
  refine ⟨hk, by rw [e]; exact hq, fun j hj => ?_⟩
  have := h j hj xs[j] (List.getElem?_eq_getElem (by omega))
  simp [this]
set_option maxRecDepth 100000 in
theorem place_calls (xs : List Nat) (A : Option Addr) (c base f : Nat) (w : World) (h : w.ownsRow base 47 1 (.slice A xs.length c) xs.length (encs (Value.float .f64) xs)) :
    Calls Try.prog 21 #[.slice A xs.length c, .float .f64 f] w fun e w' => e = .returned (.int .i64 (pl xs f)) ∧ w' = w := by
  have hmx := row_max h
  have HR := Lib.hid h
  clear h
  go_enter Try.func21, Try.ntmps21
  go_wp2
  go_loopw [5] (fun i wr => ∃ k : Nat, k ≤ xs.length ∧ i = .int .i64 k ∧ wr = w ∧ Hid (∀ j, j < k → ∀ y, xs[j]? = some y → eqk f y = false)) (fun i _ => xs.length - (intOf i).toNat)
  case atStart => exact ⟨0, Nat.zero_le _, rfl, rfl, Lib.hid (fun j hj => absurd hj (Nat.not_lt_zero _))⟩
  case round =>
    obtain ⟨k, hk, rfl, rfl, HN⟩ := hrel
    by_cases hlt : k < xs.length
    · obtain ⟨b, rfl, hcell⟩ := row_cell HR.out k hlt
      obtain ⟨y, hy⟩ : ∃ y, y = rdOf (0 : Nat) xs (k : Int) := ⟨_, rfl⟩
      have hy2 : xs[k]? = some y := by rw [hy]; simp [rdOf, List.getD_eq_getElem?_getD, hlt]
      rw [← hy] at hcell
      have HY := Lib.hid hy2
      clear hy hy2 hk
      cases hq : feq y f
      · go_wp2
        go_roundw
        case rel => exact ⟨k + 1, hlt, by go_num, by trivial, Lib.hid (fun j hj z hz => by
            by_cases h1 : j < k
            · exact HN.out j h1 z hz
            · obtain rfl : j = k := by omega
              rw [HY.out] at hz
              injection hz with hz
              subst hz
              show feq f _ = false
              rw [feq_comm]; exact hq)⟩
        case measure => simp [intOf]; omega
      · go_wp2
        go_ret
        have : xs.findIdx? (fun b => eqk f b) = some k := find_some HN.out HY.out (by show feq f y = true; rw [feq_comm]; exact hq)
        exact ⟨by simp only [pl, this]; rfl, rfl⟩
    · obtain rfl : k = xs.length := by omega
      clear hlt hk
      go_wp2
      go_ret
      have : xs.findIdx? (fun b => eqk f b) = none := find_none HN.out (Nat.le_refl _)
      exact ⟨by simp only [pl, this]; rfl, rfl⟩
def cut1000 (x : Int) : Int := if 1000 < x then 1000 else x
theorem min_cut (P : Program) (w : World) (ts : Array TypeId) (t : TypeId) (k k' : IntKind) (x : Int) : (Builtin.min_ ts t #[.int k x, .int k' 1000]).run P w = .ok (.int k (cut1000 x)) w := by
  rw [run_min_int2]; rfl
attribute [local go_sem high] min_cut
theorem info50 : (Try.prog.info? 50).map (fun i => i.size) = some 7 := by kernel_rfl
set_option maxRecDepth 100000 in
theorem first_calls (A : Option Addr) (n c : Nat) (w : World) (hc : n ≤ c) : Calls Try.prog 20 #[.slice A n c] w fun e w' => e = .returned (.slice A (min n 1000) c) ∧ w' = w := by
  have hsl : ∀ W : World, (Instr.slice 38 (.slice A n c) none (some (.int .i64 (cut1000 (n : Int)))) none).run Try.prog W = .ok (.slice A (min n 1000) c) W := by
    intro W
    obtain ⟨i, hi, hs⟩ := Option.map_eq_some_iff.1 info50
    have hel : Try.prog.elem 38 = 50 := by simp [Program.elem, Try.underlying38]
    have hn : (cut1000 (n : Int)).toNat = min n 1000 := by unfold cut1000; split <;> omega
    have ha : (A.map fun x => x.add 0) = A := by cases A <;> simp [Addr.add]
    rw [run_slice_h W 38 A n c (by rw [hel]; exact Try.underlying38) .i64 (cut1000 (n : Int)) (by unfold cut1000; split <;> omega) (by unfold cut1000; split <;> omega), hel, hn]
    simp [sizeOf, typeInfo, hi, sliced, Result.andThen, ha]
  go_enter Try.func20, Try.ntmps20
  go_wp2
  go_ret
  exact ⟨rfl, rfl⟩
end Go.Proofs.Ytaeijlkogenblaa.Nf
