/- JournalApart: no record is the beginning of another one. Conditions: none. -/
import Derived.Test.YtcoodlncjnekoaaRec
import Derived.Test.YtcoodlncjnekoaaJn
namespace Go.Proofs.Ytcoodlncjnekoaa.F
open Go.RowKit Go.Proofs.YtcoodlncjnekoaaW.PrintWords Go.Proofs.YtcoodlncjnekoaaW.PrintLast Go.Proofs.YtcoodlncjnekoaaW.PrintMore Go.Proofs.JournalPlain
set_option linter.unusedVariables false
theorem right_f (v : Int) (t : ByteArray) : gatehouselaw22_right.f v t = some (decide (fit_ v t)) := by
  unfold gatehouselaw22_right.f
  by_cases h1 : v ≥ 1
  · by_cases h2 : v ≤ 2147483647
    · rw [if_pos h1, if_pos h2]
      congr 1
      exact decide_eq_decide.2 ⟨fun h => ⟨h1, h2, by omega⟩, fun h => by have := h.2.2; omega⟩
    · rw [if_pos h1, if_neg h2, decide_eq_false (fun h : fit_ v t => h2 h.2.1)]
  · rw [if_neg h1, decide_eq_false (fun h : fit_ v t => h1 h.1)]
theorem frame_code (v : Int) (t : ByteArray) : ((frame v t).2 == 0) = decide (fit_ v t) := by
  by_cases h : fit_ v t
  · rw [frame_fit h, decide_eq_true h]; rfl
  · obtain ⟨c, hc, e⟩ := frame_not h
    rw [e, decide_eq_false h]
    rcases hc with rfl | rfl <;> rfl
theorem same_entry (v v' : Int) (t t' : ByteArray) : (v == v' && (t.toList == t'.toList)) = decide (v = v' ∧ t = t') := by
  have h : (t.toList == t'.toList) = decide (t = t') := by
    rw [Bool.eq_iff_iff, beq_iff_eq, decide_eq_true_iff, toList_bytesOf]
    exact ⟨bytesOf_inj, fun h => by rw [h]⟩
  rw [h]
  by_cases h1 : v = v' <;> by_cases h2 : t = t' <;> simp [h1, h2]
theorem JournalApart_pure (v : Int) (t : ByteArray) (v' : Int) (t' : ByteArray) : ∃ k, gatehouselaw22_JournalApart.f k v t v' t' = some true := by
  obtain ⟨k, hk⟩ : ∃ k, k = KF t + KF t' + 300 := ⟨_, rfl⟩
  refine ⟨k + 1, ?_⟩
  unfold gatehouselaw22_JournalApart.f
  rw [alive_f _ (by omega), Option.bind_some, Frame_f v t _ (by omega), Option.bind_some, Frame_f v' t' _ (by omega), Option.bind_some, if_pos rfl, right_f, Option.bind_some, frame_code, bne_self_eq_false, if_neg (by decide), right_f, Option.bind_some, frame_code, bne_self_eq_false]
  rw [gatehouselaw22_JournalApart.j0, if_neg (by decide)]
  by_cases h : fit_ v t <;> by_cases h' : fit_ v' t'
  · rw [frame_fit h, frame_fit h']
    simp only [if_true]
    have hb := begins_iff h h'
    rw [same_entry]
    by_cases hl : ((frameB v t).size : Int) ≤ ((frameB v' t').size : Int)
    · rw [if_pos hl, if_pos (by omega), Int.toNat_natCast]
      congr 1
      have : (((frameB v' t').extract 0 (frameB v t).size).toList == (frameB v t).toList) = decide (v = v' ∧ t = t') := by
        rw [Bool.eq_iff_iff, beq_iff_eq, decide_eq_true_iff, ← hb]
        exact ⟨fun h => ⟨by omega, h⟩, fun h => h.2⟩
      rw [this, beq_self_eq_true]
    · rw [if_neg hl, decide_eq_false (fun hh => hl (by have := (hb.2 hh).1; omega))]
      rfl
  · obtain ⟨c, hc, e⟩ := frame_not h'
    rw [frame_fit h, e]
    rcases hc with rfl | rfl <;> simp
  · obtain ⟨c, hc, e⟩ := frame_not h
    rw [frame_fit h', e]
    rcases hc with rfl | rfl <;> simp
  · obtain ⟨c, hc, e⟩ := frame_not h
    obtain ⟨c', hc', e'⟩ := frame_not h'
    rw [e, e']
    rcases hc with rfl | rfl <;> rcases hc' with rfl | rfl <;> simp
theorem JournalApart.walk (x0 : S23) (c0 : Array Value) (x1 : S23) (c1 : Array Value) (w : World) (hk0 : Kd.K k23 w x0 c0.toList) (hg0 : (Lit.int .i64 x0.f0).wf = true ∧ x0.f1.size ≤ 140737488351232) (hk1 : Kd.K k23 w x1 c1.toList) (hg1 : (Lit.int .i64 x1.f0).wf = true ∧ x1.f1.size ≤ 140737488351232) :
    Calls Try.prog 11 #[.agg c0, .agg c1] w fun e w' => e = .returned (.bool true) ∧ Below w.heap.size w w' := by
  obtain rfl := agg_of hk0
  obtain rfl := agg_of hk1
  obtain ⟨k, hk⟩ := JournalApart_pure x0.f0 x0.f1 x1.f0 x1.f1
  refine (gatehouselaw22_JournalApart.calls k _ _ _ _ true w hk).mono ?_
  rintro e w' ⟨rfl, h⟩
  exact ⟨rfl, h⟩
end Go.Proofs.Ytcoodlncjnekoaa.F
