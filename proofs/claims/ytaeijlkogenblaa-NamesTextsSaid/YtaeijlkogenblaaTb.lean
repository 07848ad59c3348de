/- NamesTexts: an iterator of an index of texts, gone over by over. Conditions: each theorem's own. -/
import Derived.Test.YtaeijlkogenblaaTa
namespace Go.Proofs.Ytaeijlkogenblaa.Nt
open Go.RowKit Go.Shelf Go.Proofs.YtaeijlkogenblaaW.Raw Go.Proofs.YtaeijlkogenblaaW.PrintWords Go.Proofs.YtaeijlkogenblaaW.PrintLast Go.Proofs.Ytaeijlkogenblaa.IxS
set_option linter.unusedVariables false
set_option linter.unusedSimpArgs false
/-- A slice of texts that is read, in blocks that satisfy f. -/
def Rds (f : Nat → Prop) (W : World) (v : Value) (zs : List ByteArray) : Prop :=
  ∃ A c, v = .slice A zs.length c ∧ zs.length ≤ c ∧ zs.length ≤ 1048576 ∧ (zs = [] ∨ ∃ b cs, A = some ⟨b, 0, none⟩ ∧ f b ∧ W.heap[b]? = some (.cells cs 9 (0, 0)) ∧ ∀ j, j < zs.length → cs[j]? = some (.string (rdOf ByteArray.empty zs (j : Int))))
theorem Rds.move {f f' : Nat → Prop} {W W' : World} {v : Value} {zs : List ByteArray} (h : Rds f W v zs) (hm : ∀ k, f k → k < W.heap.size → W'.heap[k]? = W.heap[k]?) (hf : ∀ k, f k → f' k) : Rds f' W' v zs := by
  obtain ⟨A, c, e, hl, hx, hz⟩ := h
  refine ⟨A, c, e, hl, hx, hz.imp id ?_⟩
  rintro ⟨b, cs, eA, hfb, hb, hc⟩
  exact ⟨b, cs, eA, hf b hfb, (hm b hfb (Array.getElem?_eq_some_iff.1 hb).1).trans hb, hc⟩
theorem Rds.below {f : Nat → Prop} {W W' : World} {v : Value} {zs : List ByteArray} (h : Rds f W v zs) (hb : Below W.heap.size W W') : Rds f W' v zs := h.move (fun k _ hk => hb.block k hk) (fun _ h => h)
theorem Rds.get {f : Nat → Prop} {W : World} {A : Option Addr} {n c : Nat} {zs : List ByteArray} (h : Rds f W (.slice A n c) zs) (j : Nat) (hj : j < zs.length) : ∃ b cs, A = some ⟨b, 0, none⟩ ∧ W.heap[b]? = some (.cells cs 9 (0, 0)) ∧ W.cell? ⟨b, j, none⟩ = some (.string (rdOf ByteArray.empty zs (j : Int))) := by
  obtain ⟨A', c', e, hl, hx, hz⟩ := h
  injection e with e1 e2 e3
  subst e1
  rcases hz with rfl | ⟨b, cs, eA, hfb, hb, hc⟩
  · cases hj
  · exact ⟨b, cs, eA, hb, (blk_cell hb j).trans (hc j hj)⟩
structure Ov (W : World) (b7 b4 b8 b5 k : Nat) (u : Value) (m : Int) : Prop where
  h7 : W.heap[b7]? = some (.cells #[.int .i64 (k : Int)] 3 (0, 0))
  h4 : W.heap[b4]? = some (.cells #[u] 22 (0, 0))
  h8 : W.heap[b8]? = some (.cells #[.bool true] 4 (0, 0))
  h5 : W.heap[b5]? = some (.cells #[.int .i64 m] 3 (0, 0))
  ne : b5 ≠ b7
theorem ov_next {W W' : World} {b7 b4 b8 b5 k : Nat} {u : Value} {m : Int} (hw : W' = W.setCell ⟨b7, 0, none⟩ (.int .i64 ((k : Int) + 1))) (h : Ov W b7 b4 b8 b5 k u m) : Ov W' b7 b4 b8 b5 (k + 1) u m := by
  subst hw
  have far : ∀ i cs t, W.heap[i]? = some (.cells cs t (0, 0)) → i ≠ b7 → (W.setCell ⟨b7, 0, none⟩ (.int .i64 ((k : Int) + 1))).heap[i]? = some (.cells cs t (0, 0)) := fun i cs t hi hn => (Below.heap_setCell _ _ _ _ hn).trans hi
  refine ⟨?_, far _ _ _ h.h4 (fun e => by have := h.h4; rw [e, h.h7] at this; cases this), far _ _ _ h.h8 (fun e => by have := h.h8; rw [e, h.h7] at this; cases this), far _ _ _ h.h5 h.ne, h.ne⟩
  have := blk_set h.h7 0 (.int .i64 ((k : Int) + 1))
  rw [this]
  simp
set_option maxRecDepth 100000 in
theorem over1_calls (zs : List ByteArray) (b7 b4 b8 b5 k : Nat) (A : Option Addr) (c : Nat) (m : Int) (f : Nat → Prop) (W : World) (h : Ov W b7 b4 b8 b5 k (.slice A zs.length c) m) (hu : Rds f W (.slice A zs.length c) zs) (hk : k < zs.length) :
    Calls Try.prog 43 #[.int .i64 ((k : Int) + 1), .string (rdOf ByteArray.empty zs (k : Int)), .pointer (some ⟨b7, 0, none⟩), .pointer (some ⟨b4, 0, none⟩), .pointer (some ⟨b8, 0, none⟩), .pointer (some ⟨b5, 0, none⟩)] W fun e W' =>
      e = .returned (.bool ((k : Int) + 1 != m)) ∧ W' = W.setCell ⟨b7, 0, none⟩ (.int .i64 ((k : Int) + 1)) := by
  have hmx : zs.length ≤ 1048576 := by obtain ⟨_, _, _, _, h3, _⟩ := hu; exact h3
  obtain ⟨b, cs, rfl, hb, hcell⟩ := hu.get k hk
  have c7 := (blk_cell h.h7 0).trans (Eq.refl (some (Value.int .i64 (k : Int))))
  have f7 := blk_frozen h.h7 0
  have c4 := (blk_cell h.h4 0).trans (Eq.refl (some (Value.slice (some ⟨b, 0, none⟩) zs.length c)))
  have c5 := (blk_cell h.h5 0).trans (Eq.refl (some (Value.int .i64 m)))
  have hne := h.ne
  have hne2 : b7 ≠ b5 := Ne.symm h.ne
  have hkd : decide (zs.length ≤ k) = false := decide_eq_false (by omega)
  have hkd2 : decide ((zs.length : Int) ≤ (k : Int)) = false := decide_eq_false (by omega)
  generalize rdOf ByteArray.empty zs (k : Int) = y at hcell ⊢
  have hki : (k : Int) < (zs.length : Int) := by omega
  have hmi : (zs.length : Int) ≤ 1048576 := by omega
  clear h hu hb
  go_enter Try.func43, Try.ntmps43
  go_wp2
  go_ret
  exact ⟨rfl, rfl⟩
set_option maxRecDepth 100000 in
set_option maxHeartbeats 2000000 in
theorem it_calls (zs : List ByteArray) (Bs b7 b4 b8 b5 : Nat) (Az Au : Option Addr) (c : Nat) (m : Int) (f : Nat → Prop) (W : World) (h : Ov W b7 b4 b8 b5 0 (.slice Au zs.length c) m) (hBs : W.heap[Bs]? = some (.cells #[.slice Az zs.length zs.length] 22 (0, 0))) (hz : Rds f W (.slice Az zs.length zs.length) zs) (hu : Rds f W (.slice Au zs.length c) zs) :
    Calls Try.prog 42 #[.func (.func 43) #[] #[.pointer (some ⟨b7, 0, none⟩), .pointer (some ⟨b4, 0, none⟩), .pointer (some ⟨b8, 0, none⟩), .pointer (some ⟨b5, 0, none⟩)], .pointer (some ⟨Bs, 0, none⟩)] W fun e W' =>
      (∃ v, e = .returned v) ∧ ∃ k : Nat, (k = zs.length ∨ (k : Int) = m) ∧ Ov W' b7 b4 b8 b5 k (.slice Au zs.length c) m ∧ Below b7 W W' := by
  have hmx : zs.length ≤ 1048576 := by obtain ⟨_, _, _, _, h3, _⟩ := hu; exact h3
  have cB := (blk_cell hBs 0).trans (Eq.refl (some (Value.slice Az zs.length zs.length)))
  have HO := Lib.hid h
  have HB := Lib.hid hBs
  have HZ := Lib.hid hz
  have HU := Lib.hid hu
  clear h hBs hz hu
  go_enter Try.func42, Try.ntmps42
  go_wp2
  go_loopw [7] (fun i wr => ∃ k : Nat, k ≤ zs.length ∧ i = .int .i64 (k : Nat) ∧ Ov wr b7 b4 b8 b5 k (.slice Au zs.length c) m ∧ (∀ i, i ≠ b7 → wr.heap[i]? = W.heap[i]?) ∧ Below b7 W wr) (fun i _ => zs.length - (intOf i).toNat)
  case atStart => exact ⟨0, Nat.zero_le _, rfl, HO.out, fun _ _ => rfl, Below.refl _ _⟩
  case round =>
    obtain ⟨k, hk, rfl, hO, hs, hb⟩ := hrel
    have HOk := Lib.hid hO
    have HSk := Lib.hid hs
    have HBk := Lib.hid hb
    have h7 : ∀ (i : Nat) (cs : Array Value) (t : Nat), W.heap[i]? = some (Obj.cells cs t (0, 0)) → t ≠ 3 → wr.heap[i]? = some (Obj.cells cs t (0, 0)) := fun i cs t hi ht => (hs i (fun e => by
      subst e
      rw [HO.out.h7] at hi
      injection hi with hi
      injection hi with _ h2 _
      exact ht h2.symm)).trans hi
    have hzw : Rds f wr (.slice Az zs.length zs.length) zs := by
      obtain ⟨A', c', e, hl, hx, hz⟩ := HZ.out
      exact ⟨A', c', e, hl, hx, hz.imp id (fun ⟨b, cs, eA, hfb, hb, hc⟩ => ⟨b, cs, eA, hfb, h7 b _ _ hb (by decide), hc⟩)⟩
    have huw : Rds f wr (.slice Au zs.length c) zs := by
      obtain ⟨A', c', e, hl, hx, hz⟩ := HU.out
      exact ⟨A', c', e, hl, hx, hz.imp id (fun ⟨b, cs, eA, hfb, hb, hc⟩ => ⟨b, cs, eA, hfb, h7 b _ _ hb (by decide), hc⟩)⟩
    have HUW := Lib.hid huw
    by_cases hlt : k < zs.length
    · obtain ⟨b, cs, rfl, _, hcell⟩ := hzw.get k hlt
      obtain ⟨y, hy⟩ : ∃ y, y = rdOf ByteArray.empty zs (k : Int) := ⟨_, rfl⟩
      rw [← hy] at hcell
      have HC := Lib.hid (show Calls Try.prog 43 #[.int .i64 ((k : Int) + 1), .string y, .pointer (some ⟨b7, 0, none⟩), .pointer (some ⟨b4, 0, none⟩), .pointer (some ⟨b8, 0, none⟩), .pointer (some ⟨b5, 0, none⟩)] wr _ from by rw [hy]; exact over1_calls zs b7 b4 b8 b5 k Au c m f wr hO huw hlt)
      have hki : (k : Int) < (zs.length : Int) := by omega
      have hmi : (zs.length : Int) ≤ 1048576 := by omega
      clear hO hs hb h7 hzw huw hy hk
      have hm : ((k : Int) + 1 != m) = true ∨ ((k : Int) + 1 != m) = false := by cases ((k : Int) + 1 != m) <;> simp
      rcases hm with hm | hm
      · go_wp2_with (first | (go_at_call 43; go_must (refine HC.out.mono ?_); rw [hm]; rintro e w2 ⟨rfl, hw2⟩; have HW2 := Lib.hid hw2; clear hw2))
        go_roundw
        case rel => exact ⟨k + 1, hlt, by go_num, ov_next HW2.out HOk.out, fun i hi => by rw [HW2.out]; exact (Below.heap_setCell _ _ _ _ hi).trans (HSk.out i hi), by rw [HW2.out]; exact HBk.out.setCell (p := ⟨b7, 0, none⟩) (Nat.le_refl _) _⟩
        case measure => simp [intOf]; omega
      · go_wp2_with (first | (go_at_call 43; go_must (refine HC.out.mono ?_); rw [hm]; rintro e w2 ⟨rfl, hw2⟩; have HW2 := Lib.hid hw2; clear hw2))
        refine bodyPost_ret (results_none rfl _ _ _) rfl ?_
        have hm2 : (k : Int) + 1 = m := by
          by_cases h : (k : Int) + 1 = m
          · exact h
          · rw [bne_eq_false_iff_eq] at hm; exact hm
        exact ⟨⟨_, rfl⟩, k + 1, .inr (by omega), ov_next HW2.out HOk.out, by rw [HW2.out]; exact HBk.out.setCell (p := ⟨b7, 0, none⟩) (Nat.le_refl _) _⟩
    · obtain rfl : k = zs.length := by omega
      clear hO hs hb h7 hzw huw hlt hk
      go_wp2
      go_end0
      exact ⟨⟨_, rfl⟩, _, .inl rfl, HOk.out, HBk.out⟩
end Go.Proofs.Ytaeijlkogenblaa.Nt
