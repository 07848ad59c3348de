import Derived.Test.YteefneemmdfncaaDoorSB
import Derived.Laws.BitsAllLaws
/- What mean.Relation asks for: sides in a list; about, of a policy that lies in an elder world; once; slices.IndexFunc. Conditions: each theorem's own.
mean.Relation, as plain functions; and what is in it. Conditions: each theorem's own.
mean.Relation, walked. Conditions: the policy reads as it must; its lists are not longer than 16777216, nor is the product of the three.
mean.Mask, walked. Conditions: the policy reads as it must; its lists are not longer than 16777216.
What sizes a policy may have, as a truth that is asked for. Conditions: none. -/
namespace Go.Proofs.YteefneemmdfncaaDoor.M
open Go.RowKit Go.Proofs.YteefneemmdfncaaDoorW.Raw Go.Proofs.YteefneemmdfncaaDoorW.PrintWords Go.Proofs.YteefneemmdfncaaDoor.F
set_option linter.unusedVariables false
attribute [local go_sem] run_store_float
end Go.Proofs.YteefneemmdfncaaDoor.M
namespace Go.Proofs.YteefneemmdfncaaDoor.M
open Go.RowKit Go.Proofs.YteefneemmdfncaaDoorW.Raw Go.Proofs.YteefneemmdfncaaDoorW.PrintWords Go.Proofs.YteefneemmdfncaaDoor.F
set_option linter.unusedVariables false
end Go.Proofs.YteefneemmdfncaaDoor.M
namespace Go.Proofs.YteefneemmdfncaaDoor.M
open Go.RowKit Go.Proofs.YteefneemmdfncaaDoorW.Raw Go.Proofs.YteefneemmdfncaaDoorW.PrintWords Go.Proofs.YteefneemmdfncaaDoor.F
set_option linter.unusedVariables false
attribute [local go_sem] run_store_float
end Go.Proofs.YteefneemmdfncaaDoor.M
namespace Go.Proofs.YteefneemmdfncaaDoor.M
open Go.RowKit Go.Proofs.YteefneemmdfncaaDoorW.Raw Go.Proofs.YteefneemmdfncaaDoorW.PrintWords Go.Proofs.YteefneemmdfncaaDoor.F
set_option linter.unusedVariables false
attribute [local go_sem] run_store_float
end Go.Proofs.YteefneemmdfncaaDoor.M
namespace Go.Proofs.YteefneemmdfncaaDoor.M
open Go.RowKit Go.Proofs.YteefneemmdfncaaDoorW.Raw Go.Proofs.YteefneemmdfncaaDoorW.PrintWords Go.Proofs.YteefneemmdfncaaDoor.F
set_option linter.unusedVariables false
def okB (p : Pol) : Bool := decide (p.f5.length + p.f6.length ≤ 16777215) && decide (p.f7.length + p.f8.length ≤ 16777215) && decide (p.f9.length ≤ 16777216) && decide (p.f0.length ≤ 16777216) && decide (p.f1.length ≤ 16777216) && decide (p.f3.length ≤ 16777216)
theorem okB_iff {p : Pol} : okB p = true ↔ OkP p := by
  simp only [okB, Bool.and_eq_true, decide_eq_true_eq]
  exact ⟨fun ⟨⟨⟨⟨⟨h1, h2⟩, h3⟩, h4⟩, h5⟩, h6⟩ => ⟨h1, h2, h3, h4, h5, h6⟩, fun h => ⟨⟨⟨⟨⟨h.s, h.o⟩, h.r⟩, h.a⟩, h.u⟩, h.b⟩⟩
end Go.Proofs.YteefneemmdfncaaDoor.M
/- What a policy's relation is, plainly; 'from some rounds on'; sizes. No condition. -/
namespace Go.Proofs.YteefneemmdfncaaDoor.M
open Go.RowKit Go.Proofs.YteefneemmdfncaaDoorW.Raw Go.Proofs.YteefneemmdfncaaDoorW.PrintWords Go.Proofs.YteefneemmdfncaaDoor.F
set_option linter.unusedVariables false
open Classical in
noncomputable def ad {α : Type} (xs : List α) (x : α) : List α := if x ∈ xs then xs else xs ++ [x]
noncomputable def dd {α : Type} (xs : List α) : List α := xs.foldl ad []
theorem snoc_ind {α : Type} {p : List α → Prop} (h0 : p []) (h1 : ∀ xs x, p xs → p (xs ++ [x])) (xs : List α) : p xs := by
  have : ∀ ys : List α, p ys.reverse := by
    intro ys
    induction ys with
    | nil => exact h0
    | cons y ys ih => rw [List.reverse_cons]; exact h1 _ _ ih
  have h := this xs.reverse
  rwa [List.reverse_reverse] at h
/-- From some rounds on. -/
def Evt {α : Type} (g : Nat → Option α) (r : α) : Prop := ∃ k0, ∀ k, k0 ≤ k → g k = some r
theorem Evt.now {α : Type} {g : Nat → Option α} {r : α} (h : ∀ k, g (k + 1) = some r) : Evt g r := ⟨1, fun k hk => by obtain ⟨j, rfl⟩ : ∃ j, k = j + 1 := ⟨k - 1, by omega⟩; exact h j⟩
theorem Evt.step {α : Type} {g h : Nat → Option α} {r : α} (hh : Evt h r) (e : ∀ k, g (k + 1) = h k) : Evt g r := by
  obtain ⟨k0, hk⟩ := hh
  refine ⟨k0 + 1, fun k hl => ?_⟩
  obtain ⟨j, rfl⟩ : ∃ j, k = j + 1 := ⟨k - 1, by omega⟩
  rw [e]; exact hk j (by omega)
theorem Evt.same {α : Type} {g h : Nat → Option α} {r : α} (hh : Evt h r) (e : ∀ k, g k = h k) : Evt g r := by
  obtain ⟨k0, hk⟩ := hh
  exact ⟨k0, fun k hl => by rw [e]; exact hk k hl⟩
theorem Evt.bind {α β : Type} {g : Nat → Option α} {a : α} {f : Nat → α → Option β} {r : β} (h1 : Evt g a) (h2 : Evt (fun k => f k a) r) : Evt (fun k => (g k).bind fun x => f k x) r := by
  obtain ⟨k1, h1⟩ := h1
  obtain ⟨k2, h2⟩ := h2
  refine ⟨max k1 k2, fun k hk => ?_⟩
  show (g k).bind _ = _
  rw [h1 k (by omega)]
  exact h2 k (by omega)
theorem tb (a b : ByteArray) : (a.toList == b.toList) = (b == a) := by
  rw [Bool.eq_iff_iff, beq_iff_eq, toList_iff, bb]
  exact eq_comm
theorem tb' (a b : ByteArray) : (a.toList == b.toList) = (a == b) := by
  rw [Bool.eq_iff_iff, beq_iff_eq, toList_iff, bb]
theorem rdTri {l : List Tri} {i : Nat} (h : i < l.length) : rd_T30 l (i : Int) = l[i] := by simp [rd_T30, List.getD_eq_getElem?_getD, h]
theorem rdSub {l : List Sub} {i : Nat} (h : i < l.length) : rd_T61 l (i : Int) = l[i] := by simp [rd_T61, List.getD_eq_getElem?_getD, h]
theorem rdStr {l : List ByteArray} {i : Nat} (h : i < l.length) : rdOf ByteArray.empty l (i : Int) = l[i] := by simp [rdOf, h]
theorem w1 {i : Nat} (h : i < 4611686018427387904) : wrap64 ((i : Int) + 1) = ((i + 1 : Nat) : Int) := by unfold wrap64; omega
structure Sz (p : Pol) : Prop where
  l0 : p.f0.length ≤ 1048576
  l1 : p.f1.length ≤ 1048576
  l2 : p.f2.length ≤ 1048576
  l3 : p.f3.length ≤ 1048576
  l4 : p.f4.length ≤ 1048576
  l5 : p.f5.length ≤ 1048576
  l6 : p.f6.length ≤ 1048576
  l7 : p.f7.length ≤ 1048576
  l8 : p.f8.length ≤ 1048576
  l9 : p.f9.length ≤ 1048576
  l10 : p.f10.length ≤ 1048576
  la : ∀ r ∈ p.f9, r.f3.length ≤ 1048576
theorem Sz.ok {p : Pol} (h : Sz p) : okB p = true := okB_iff.2 ⟨by have := h.l5; have := h.l6; omega, by have := h.l7; have := h.l8; omega, by have := h.l9; omega, by have := h.l0; omega, by have := h.l1; omega, by have := h.l3; omega⟩
theorem rdRule {l : List Rule} {i : Nat} (h : i < l.length) : rd_T48 l (i : Int) = l[i] := by simp [rd_T48, List.getD_eq_getElem?_getD, h]
end Go.Proofs.YteefneemmdfncaaDoor.M
/- why.there's closure; slices.IndexFunc and ContainsFunc of it: is a subject of that name there? Conditions: each theorem's own. -/
namespace Go.Proofs.YteefneemmdfncaaDoor.M
open Go.RowKit Go.Proofs.YteefneemmdfncaaDoorW.Raw Go.Proofs.YteefneemmdfncaaDoorW.PrintWords Go.Proofs.YteefneemmdfncaaDoor.F
set_option linter.unusedVariables false
set_option linter.unusedSimpArgs false
set_option maxRecDepth 100000 in
theorem there1_calls (y : ByteArray) (ty : Nat) (t : Tri) (b : Nat) (w : World) (hb : w.heap[b]? = some (.cells #[.string t.f0, .string t.f1, .string t.f2] 30 (0, 0))) :
    Calls Tryd.prog 73 #[.agg #[.string y, .float .f64 ty], .pointer (some ⟨b, 0, none⟩)] w fun e w' => e = .returned (.bool (y.toList == t.f0.toList)) ∧ Below w.heap.size w w' := by
  have q := (heap_old w (Obj.cells #[Value.string y, Value.float .f64 ty] 61) (lt_of_get hb)).trans hb
  have q0 := (blk_cell q 0).trans (Eq.refl (some (Value.string t.f0)))
  go_enter Tryd.func73, Tryd.ntmps73
  go_wp2_with fail
  go_ret
  exact ⟨rfl, (Below.refl _ _).alloc (Nat.le_refl _) _⟩
/-- Is a subject of that name in the list? -/
def nameB (l : List Sub) (x : ByteArray) : Bool := l.any fun s => s.f0.toList == x.toList
set_option maxRecDepth 100000 in
set_option maxHeartbeats 2000000 in
theorem thereIx_calls (l : List Sub) (t : Tri) (b : Nat) (Aa : Option Addr) (c : Nat) (w : World) (h : Kd.C k61 w Aa l.length l) (hb : w.heap[b]? = some (.cells #[.string t.f0, .string t.f1, .string t.f2] 30 (0, 0))) :
    Calls Tryd.prog 93 #[.slice Aa l.length c, .func (.func 73) #[] #[.pointer (some ⟨b, 0, none⟩)]] w fun e w' => Below w.heap.size w w' ∧ ∃ i : Int, e = .returned (.int .i64 i) ∧ decide (0 ≤ i) = nameB l t.f0 := by
  have HR := Lib.hid h
  have HP := Lib.hid hb
  have hmx : l.length ≤ 9223372036854775807 := h.2.1
  clear h hb
  go_enter Tryd.func93, Tryd.ntmps93
  go_wp2_with fail
  go_loopw [8] (fun i wr => ∃ k : Nat, k ≤ l.length ∧ i = .int .i64 (k : Nat) ∧ Hid ((l.take k).any (fun s => s.f0.toList == t.f0.toList) = false) ∧ Hid (Below w.heap.size w wr)) (fun i _ => l.length - (intOf i).toNat)
  case atStart => exact ⟨0, Nat.zero_le _, rfl, Lib.hid rfl, Lib.hid (Below.refl _ _)⟩
  case round =>
    obtain ⟨k, hk, rfl, HN, HB⟩ := hrel
    by_cases hlt : k < l.length
    · obtain ⟨ad, rfl, e0, e1⟩ := at_T61 (Kd.C_below HR.out HB.out) (k : Int) (by omega) (by omega)
      obtain ⟨s, hs⟩ : ∃ s, s = rd_T61 l (k : Int) := ⟨_, rfl⟩
      rw [← hs, Int.toNat_natCast] at e0 e1
      have hks : l[k]? = some s := by rw [hs]; simp [rd_T61, List.getD_eq_getElem?_getD, hlt]
      have HKS := Lib.hid hks
      clear hs hks
      go_wp2_with fail
      refine (there1_calls s.f0 s.f1 t b wr ((HB.out.block _ (lt_of_get HP.out)).trans HP.out)).mono ?_
      rintro e w2 ⟨rfl, hb2⟩
      have HB2 := Lib.hid (HB.out.trans (hb2.mono HB.out.size))
      clear hb2 e0 e1
      have HTK := Lib.hid (show l.take (k + 1) = l.take k ++ [s] by rw [List.take_add_one, HKS.out]; rfl)
      cases hq : (s.f0.toList == t.f0.toList) with
      | true =>
        have HQ := Lib.hid hq
        clear hq
        go_wp2
        go_ret
        refine ⟨HB2.out, (k : Int), rfl, ?_⟩
        rw [decide_eq_true (by omega : (0 : Int) ≤ (k : Int))]
        unfold nameB
        exact (List.any_eq_true.2 ⟨s, List.mem_of_getElem? HKS.out, HQ.out⟩).symm
      | false =>
        have HQ := Lib.hid hq
        clear hq
        go_wp2
        go_roundw
        case rel => exact ⟨k + 1, hlt, by go_num, Lib.hid (by rw [HTK.out, List.any_append, HN.out]; simp [HQ.out]), HB2⟩
        case measure => simp [intOf]; omega
    · obtain rfl : k = l.length := by omega
      go_wp2_with fail
      go_ret
      refine ⟨HB.out, -1, rfl, ?_⟩
      have h := HN.out
      rw [List.take_length] at h
      unfold nameB
      rw [h]
      decide
set_option maxRecDepth 100000 in
theorem thereCf_calls (l : List Sub) (t : Tri) (b : Nat) (Aa : Option Addr) (c : Nat) (w : World) (h : Kd.C k61 w Aa l.length l) (hb : w.heap[b]? = some (.cells #[.string t.f0, .string t.f1, .string t.f2] 30 (0, 0))) :
    Calls Tryd.prog 72 #[.slice Aa l.length c, .func (.func 73) #[] #[.pointer (some ⟨b, 0, none⟩)]] w fun e w' => e = .returned (.bool (nameB l t.f0)) ∧ Below w.heap.size w w' := by
  have HI := Lib.hid (thereIx_calls l t b Aa c w h hb)
  clear h hb
  go_enter Tryd.func72, Tryd.ntmps72
  go_wp2_with (first | (go_at_call 93; go_must (refine HI.out.mono ?_); rintro e w2 ⟨hb, i, rfl, hi⟩; have HD := Lib.hid hi; have HB := Lib.hid hb; clear hi hb))
  go_ret
  exact ⟨congrArg (fun z => Ending.returned (.bool z)) HD.out, HB.out⟩
end Go.Proofs.YteefneemmdfncaaDoor.M
