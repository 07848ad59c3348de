import Derived.Test.YtcoodlncjnekoaaYh
/- JournalActs: a disk and its journal made. Conditions: each theorem's own. -/
namespace Go.Proofs.Ytcoodlncjnekoaa.F
open Go.RowKit Go.Proofs.YtcoodlncjnekoaaW.Raw Go.Proofs.YtcoodlncjnekoaaW.PrintWords Go.Proofs.JournalPlain Go.Proofs.Ytcoodlncjnekoaa.D
set_option linter.unusedVariables false
set_option linter.unusedSimpArgs false
theorem foot_base {w : World} {B n g : Nat} {v : Value} {room safe : Int} {T : ByteArray} (h : Dk w B g v room safe T) (hb : n ≤ B) : ∀ k, foot g v k → n ≤ k := fun k hk => by
  rcases hk with rfl | hk
  · exact Nat.le_trans hb h.base
  · exact Nat.le_trans hb (h.own.lt k hk).1
theorem ts_ {W w1 w2 : World} {n t : Nat} (h : w2.heap.size = t) (h1 : Below n W w1) (h2 : Below w1.heap.size w1 w2) : W.heap.size ≤ t := by
  have := h1.size
  have := h2.size
  omega
theorem below_kept {W W1 W2 : World} {B : Nat} (h : Below W.heap.size W W1) (hk : Kept W1 W2 (fun k => W.heap.size ≤ k)) (hb : Below B W1 W2) : Below W.heap.size W W2 := by
  have h2 : Below W.heap.size W1 W2 := { hb with block := fun i hi => hk.2 i (Nat.lt_of_lt_of_le hi h.size) (by omega) }
  exact h.trans h2
set_option maxRecDepth 100000 in
theorem made_low (B : Nat) (W : World) (s : ByteArray) (room : Int) (hB : B ≤ W.heap.size) (h : room < 0) :
    Calls Try.prog 40 #[.agg #[.string s, .int .i64 room]] W fun e W' => ∃ t f, e = .returned (.tuple #[.pointer (some ⟨t, 0, none⟩), .bool true]) ∧ Tw B f W' t ∧ (∀ k, f k → W.heap.size ≤ k ∧ k < W'.heap.size) ∧ Below W.heap.size W W' := by
  have hg0 : ¬ 0 ≤ room := by omega
  have hd0 : decide (0 ≤ room) = false := decide_eq_false hg0
  have HO := Lib.hid (fun W' => open_bad s room W' (.inl h))
  clear h
  have HB := Lib.hid hB
  clear hB
  go_enter Try.func40, Try.ntmps40
  go_wp2_with (first
    | ((with_reducible refine gate_dst (N := 1) rfl ?_); refine box_event rfl (N := 1) rfl (cs := #[.string s, .int .i64 room]) (t := 66) ?hr ?_; (case hr => first | (go_simp; done) | (go_simp; rfl)); intro b1 hg_ w1 hb1 hB1; have HL1 := Lib.hid (show W.heap.size ≤ b1 from by rw [hg_]; exact Nat.le_refl _); clear hg_; have HB1 := Lib.hid hB1; have K1 := Lib.hid hb1; have o0 : w1.cell? ⟨b1, 0, none⟩ = some (.string s) := cells_at hb1 0; have o1 : w1.cell? ⟨b1, 1, none⟩ = some (.int .i64 room) := cells_at hb1 1; clear hb1 hB1)
    | (go_at_call 30; refine (HO.out _).mono ?_; rintro e w2 ⟨rfl, hb⟩; have HB2 := Lib.hid (hb); have K2 := Lib.hid (show w2.heap[b1]? = _ from (hb.block _ (lt_blk K1.out)).trans K1.out); have p0 : w2.cell? ⟨b1, 0, none⟩ = some (.string s) := cells_at K2.out 0; have p1 : w2.cell? ⟨b1, 1, none⟩ = some (.int .i64 room) := cells_at K2.out 1; clear hb o0 o1)
    | ((with_reducible refine gate_dst (N := 44) rfl ?_); refine box_event rfl (N := 44) rfl (cs := #[.pointer none, .pointer none, .string ⟨#[]⟩, .int .i64 0, .int .i64 0, .slice none 0 0]) (t := 82) ?hr ?_; (case hr => first | (go_simp; done) | (go_simp; rfl)); intro t hg_ w3 hb3 hB3; have HT := Lib.hid hg_; have HB3 := Lib.hid hB3; have K3 := Lib.hid hb3; clear hg_ hb3 hB3))
  go_ret2
  have hs2 := HB1.out.size
  have hs3 := HB2.out.size
  refine ⟨t, fun k => k = t, rfl, .inl ⟨rfl, ?_, _, K3.out, rfl⟩, ?_, HB1.out.trans ((HB2.out.mono hs2).trans (HB3.out.mono (Nat.le_trans hs2 hs3)))⟩
  · have := HT.out
    have := HB.out
    omega
  · rintro k rfl
    have := HT.out
    exact ⟨by omega, lt_blk K3.out⟩

set_option maxRecDepth 100000 in
theorem made_high (B : Nat) (W : World) (s : ByteArray) (room : Int) (hB : B ≤ W.heap.size) (h : 1048576 < room) :
    Calls Try.prog 40 #[.agg #[.string s, .int .i64 room]] W fun e W' => ∃ t f, e = .returned (.tuple #[.pointer (some ⟨t, 0, none⟩), .bool true]) ∧ Tw B f W' t ∧ (∀ k, f k → W.heap.size ≤ k ∧ k < W'.heap.size) ∧ Below W.heap.size W W' := by
  have hg0 : 0 ≤ room := by omega
  have hd0 : decide (0 ≤ room) = true := decide_eq_true hg0
  have hg1 : ¬ room ≤ 1048576 := by omega
  have hd1 : decide (room ≤ 1048576) = false := decide_eq_false hg1
  have HO := Lib.hid (fun W' => open_bad s room W' (.inr h))
  clear h
  have HB := Lib.hid hB
  clear hB
  go_enter Try.func40, Try.ntmps40
  go_wp2_with (first
    | ((with_reducible refine gate_dst (N := 1) rfl ?_); refine box_event rfl (N := 1) rfl (cs := #[.string s, .int .i64 room]) (t := 66) ?hr ?_; (case hr => first | (go_simp; done) | (go_simp; rfl)); intro b1 hg_ w1 hb1 hB1; have HL1 := Lib.hid (show W.heap.size ≤ b1 from by rw [hg_]; exact Nat.le_refl _); clear hg_; have HB1 := Lib.hid hB1; have K1 := Lib.hid hb1; have o0 : w1.cell? ⟨b1, 0, none⟩ = some (.string s) := cells_at hb1 0; have o1 : w1.cell? ⟨b1, 1, none⟩ = some (.int .i64 room) := cells_at hb1 1; clear hb1 hB1)
    | (go_at_call 30; refine (HO.out _).mono ?_; rintro e w2 ⟨rfl, hb⟩; have HB2 := Lib.hid (hb); have K2 := Lib.hid (show w2.heap[b1]? = _ from (hb.block _ (lt_blk K1.out)).trans K1.out); have p0 : w2.cell? ⟨b1, 0, none⟩ = some (.string s) := cells_at K2.out 0; have p1 : w2.cell? ⟨b1, 1, none⟩ = some (.int .i64 room) := cells_at K2.out 1; clear hb o0 o1)
    | ((with_reducible refine gate_dst (N := 44) rfl ?_); refine box_event rfl (N := 44) rfl (cs := #[.pointer none, .pointer none, .string ⟨#[]⟩, .int .i64 0, .int .i64 0, .slice none 0 0]) (t := 82) ?hr ?_; (case hr => first | (go_simp; done) | (go_simp; rfl)); intro t hg_ w3 hb3 hB3; have HT := Lib.hid hg_; have HB3 := Lib.hid hB3; have K3 := Lib.hid hb3; clear hg_ hb3 hB3))
  go_ret2
  have hs2 := HB1.out.size
  have hs3 := HB2.out.size
  refine ⟨t, fun k => k = t, rfl, .inl ⟨rfl, ?_, _, K3.out, rfl⟩, ?_, HB1.out.trans ((HB2.out.mono hs2).trans (HB3.out.mono (Nat.le_trans hs2 hs3)))⟩
  · have := HT.out
    have := HB.out
    omega
  · rintro k rfl
    have := HT.out
    exact ⟨by omega, lt_blk K3.out⟩

set_option maxRecDepth 100000 in
theorem made_full (B : Nat) (W : World) (s : ByteArray) (room : Int) (hB : B ≤ W.heap.size) (h0 : 0 ≤ room) (h1 : room ≤ 1048576) (h2 : room < (s.size : Int)) (hs : s.size ≤ 140737488351232) :
    Calls Try.prog 40 #[.agg #[.string s, .int .i64 room]] W fun e W' => ∃ t f, e = .returned (.tuple #[.pointer (some ⟨t, 0, none⟩), .bool true]) ∧ Tw B f W' t ∧ (∀ k, f k → W.heap.size ≤ k ∧ k < W'.heap.size) ∧ Below W.heap.size W W' := by
  have hd0 : decide (0 ≤ room) = true := decide_eq_true h0
  have hd1 : decide (room ≤ 1048576) = true := decide_eq_true h1
  have hg2 : ¬ (s.size : Int) ≤ room := by omega
  have hd2 : decide ((s.size : Int) ≤ room) = false := decide_eq_false hg2
  have HO := Lib.hid (fun W' => D.open_full s room W' h0 h1 hs h2)
  clear h2
  have HB := Lib.hid hB
  clear hB
  go_enter Try.func40, Try.ntmps40
  go_wp2_with (first
    | ((with_reducible refine gate_dst (N := 1) rfl ?_); refine box_event rfl (N := 1) rfl (cs := #[.string s, .int .i64 room]) (t := 66) ?hr ?_; (case hr => first | (go_simp; done) | (go_simp; rfl)); intro b1 hg_ w1 hb1 hB1; have HL1 := Lib.hid (show W.heap.size ≤ b1 from by rw [hg_]; exact Nat.le_refl _); clear hg_; have HB1 := Lib.hid hB1; have K1 := Lib.hid hb1; have o0 : w1.cell? ⟨b1, 0, none⟩ = some (.string s) := cells_at hb1 0; have o1 : w1.cell? ⟨b1, 1, none⟩ = some (.int .i64 room) := cells_at hb1 1; clear hb1 hB1)
    | (go_at_call 30; refine (HO.out _).mono ?_; rintro e w2 ⟨rfl, hb⟩; have HB2 := Lib.hid (hb); have K2 := Lib.hid (show w2.heap[b1]? = _ from (hb.block _ (lt_blk K1.out)).trans K1.out); have p0 : w2.cell? ⟨b1, 0, none⟩ = some (.string s) := cells_at K2.out 0; have p1 : w2.cell? ⟨b1, 1, none⟩ = some (.int .i64 room) := cells_at K2.out 1; clear hb o0 o1)
    | ((with_reducible refine gate_dst (N := 44) rfl ?_); refine box_event rfl (N := 44) rfl (cs := #[.pointer none, .pointer none, .string ⟨#[]⟩, .int .i64 0, .int .i64 0, .slice none 0 0]) (t := 82) ?hr ?_; (case hr => first | (go_simp; done) | (go_simp; rfl)); intro t hg_ w3 hb3 hB3; have HT := Lib.hid hg_; have HB3 := Lib.hid hB3; have K3 := Lib.hid hb3; clear hg_ hb3 hB3))
  go_ret2
  have hs2 := HB1.out.size
  have hs3 := HB2.out.size
  refine ⟨t, fun k => k = t, rfl, .inl ⟨rfl, ?_, _, K3.out, rfl⟩, ?_, HB1.out.trans ((HB2.out.mono hs2).trans (HB3.out.mono (Nat.le_trans hs2 hs3)))⟩
  · have := HT.out
    have := HB.out
    omega
  · rintro k rfl
    have := HT.out
    exact ⟨by omega, lt_blk K3.out⟩

set_option maxRecDepth 100000 in
theorem made_ok (B : Nat) (W : World) (s : ByteArray) (room : Int) (hB : B ≤ W.heap.size) (h0 : 0 ≤ room) (h1 : room ≤ 1048576) (h2 : (s.size : Int) ≤ room) :
    Calls Try.prog 40 #[.agg #[.string s, .int .i64 room]] W fun e W' => ∃ t f, e = .returned (.tuple #[.pointer (some ⟨t, 0, none⟩), .bool true]) ∧ Tw B f W' t ∧ (∀ k, f k → W.heap.size ≤ k ∧ k < W'.heap.size) ∧ Below W.heap.size W W' := by
  have hd0 : decide (0 ≤ room) = true := decide_eq_true h0
  have hd1 : decide (room ≤ 1048576) = true := decide_eq_true h1
  have hd2 : decide ((s.size : Int) ≤ room) = true := decide_eq_true h2
  have HO := Lib.hid (fun W' => open_dk s room W' h0 h1 h2)
  have HN := Lib.hid (And.intro h0 (And.intro h1 h2))
  have HB := Lib.hid hB
  clear hB
  go_enter Try.func40, Try.ntmps40
  go_wp2_with (first
    | ((with_reducible refine gate_dst (N := 1) rfl ?_); refine box_event rfl (N := 1) rfl (cs := #[.string s, .int .i64 room]) (t := 66) ?hr ?_; (case hr => first | (go_simp; done) | (go_simp; rfl)); intro b1 hg_ w1 hb1 hB1; have HL1 := Lib.hid (show W.heap.size ≤ b1 from by rw [hg_]; exact Nat.le_refl _); clear hg_; have HB1 := Lib.hid hB1; have K1 := Lib.hid hb1; have o0 : w1.cell? ⟨b1, 0, none⟩ = some (.string s) := cells_at hb1 0; have o1 : w1.cell? ⟨b1, 1, none⟩ = some (.int .i64 room) := cells_at hb1 1; clear hb1 hB1)
    | (go_at_call 30; refine (HO.out _).mono ?_; rintro e w2 ⟨g, v, rfl, hd, hb⟩; have HB2 := Lib.hid hb; have HD2 := Lib.hid hd; have K2 := Lib.hid ((hb.block _ (lt_blk K1.out)).trans K1.out); have p0 : w2.cell? ⟨b1, 0, none⟩ = some (.string s) := cells_at K2.out 0; have p1 : w2.cell? ⟨b1, 1, none⟩ = some (.int .i64 room) := cells_at K2.out 1; clear hb hd o0 o1)
    | ((with_reducible refine gate_dst (N := 44) rfl ?_); refine box_event rfl (N := 44) rfl (cs := #[.pointer (some ⟨g, 0, none⟩), .pointer none, .string ⟨#[]⟩, .int .i64 0, .int .i64 0, .slice none 0 0]) (t := 82) ?hr ?_; (case hr => first | (go_simp; done) | (go_simp; rfl)); intro t hg_ w3 hb3 hB3; have HT := Lib.hid (show w2.heap.size = t from hg_.symm); have HB3 := Lib.hid hB3; have K3 := Lib.hid hb3; have k13 := (hB3.block _ (lt_blk K2.out)).trans K2.out; clear p0 p1; have p0 : w3.cell? ⟨b1, 0, none⟩ = some (.string s) := cells_at k13 0; have p1 : w3.cell? ⟨b1, 1, none⟩ = some (.int .i64 room) := cells_at k13 1; have c2 : w3.cell? ⟨t, 2, none⟩ = some (.string ⟨#[]⟩) := cells_at hb3 2; have c3 : w3.cell? ⟨t, 3, none⟩ = some (.int .i64 0) := cells_at hb3 3; have c4 : w3.cell? ⟨t, 4, none⟩ = some (.int .i64 0) := cells_at hb3 4; have f2 := fz_at hb3 2; have f3 := fz_at hb3 3; have f4 := fz_at hb3 4; clear hg_ hb3 hB3 k13)
    | (go_at_call 61; have b1_ := blk_put (cs' := #[.pointer (some ⟨g, 0, none⟩), .pointer none, .string s, .int .i64 0, .int .i64 0, .slice none 0 0]) K3.out 2 (.string s) rfl; have b2_ := blk_put (cs' := #[.pointer (some ⟨g, 0, none⟩), .pointer none, .string s, .int .i64 room, .int .i64 0, .slice none 0 0]) b1_ 3 (.int .i64 room) rfl; have b3_ := blk_put (cs' := #[.pointer (some ⟨g, 0, none⟩), .pointer none, .string s, .int .i64 room, .int .i64 (s.size : Int), .slice none 0 0]) b2_ 4 (.int .i64 (s.size : Int)) rfl; have hd3 := ((((HD2.out.below HB3.out).lower (Nat.le_trans HB.out HB1.out.size)).set K3.out (by decide) (by decide) 2 (.string s)).set b1_ (by decide) (by decide) 3 (.int .i64 room)).set b2_ (by decide) (by decide) 4 (.int .i64 (s.size : Int)); have hfd : ∀ k, foot g v k → W.heap.size ≤ k := (by exact foot_base HD2.out HB1.out.size); have hts := ts_ HT.out HB1.out HB2.out; refine (open_calls (f := fun k => W.heap.size ≤ k) b3_ hd3 (Nat.le_trans HB.out hts) hts hfd HN.out.1 HN.out.2.2 HN.out.2.1).mono ?_; rintro e w9 ⟨rfl, hq⟩; have HQ9 := Lib.hid hq; have HTS := Lib.hid hts; clear hq b1_ b2_ b3_ hd3 hfd hts))
  go_ret2
  obtain ⟨f', hw, hf, hk, hb⟩ := HQ9.out
  have hs2 := HB1.out.size
  have hs3 := HB2.out.size
  have hb3 := ((((HB1.out.trans ((HB2.out.mono hs2).trans (HB3.out.mono (Nat.le_trans hs2 hs3)))).setCell (p := ⟨t, 2, none⟩) HTS.out (.string s)).setCell (p := ⟨t, 3, none⟩) HTS.out (.int .i64 room)).setCell (p := ⟨t, 4, none⟩) HTS.out (.int .i64 (s.size : Int)))
  refine ⟨t, _, rfl, hw.bound, fun k hk => ⟨?_, hk.2⟩, below_kept hb3 hk hb⟩
  rcases hf k hk.1 with h | h
  · exact h
  · exact Nat.le_trans hb3.size h

theorem made_calls (B : Nat) (W : World) (s : ByteArray) (room : Int) (hB : B ≤ W.heap.size) (hs : s.size ≤ 140737488351232) :
    Calls Try.prog 40 #[.agg #[.string s, .int .i64 room]] W fun e W' => ∃ t f, e = .returned (.tuple #[.pointer (some ⟨t, 0, none⟩), .bool true]) ∧ Tw B f W' t ∧ (∀ k, f k → W.heap.size ≤ k ∧ k < W'.heap.size) ∧ Below W.heap.size W W' := by
  by_cases h0 : room < 0
  · exact made_low B W s room hB h0
  by_cases h1 : 1048576 < room
  · exact made_high B W s room hB h1
  by_cases h2 : room < (s.size : Int)
  · exact made_full B W s room hB (by omega) (by omega) h2 hs
  exact made_ok B W s room hB (by omega) (by omega) (by omega)
end Go.Proofs.Ytcoodlncjnekoaa.F
