/- DiskExact: made, at. Conditions: each theorem's own. -/
import Derived.Test.YtcoodlncjnekoaaEg
import Derived.Laws.ResultCell
namespace Go.Proofs.Ytcoodlncjnekoaa.E
open Go.RowKit Go.Proofs.YtcoodlncjnekoaaW.PrintWords Go.Proofs.Ytcoodlncjnekoaa.D
set_option linter.unusedVariables false
set_option linter.unusedSimpArgs false
theorem at_calls (i : Int) (n : Nat) (w : World) (hn : 0 < n) (hi : -9223372036854775808 ≤ i ∧ i ≤ 9223372036854775807) (hn2 : (n : Int) ≤ 9223372036854775807) :
    ∃ q : Nat, q < n ∧ ∀ w : World, Calls Try.prog 23 #[.int .i64 i, .int .i64 (n : Nat)] w fun e w' => e = .returned (.int .i64 (q : Nat)) ∧ w' = w := by
  have hpos : 0 < (n : Int) := by omega
  have hz : ((n : Int) == 0) = false := beq_eq_false_iff_ne.2 (by omega)
  have hz2 : (n : Int) ≠ 0 := by omega
  have hq1 := Int.tmod_lt_of_pos i hpos
  have hq2 := Int.tmod_lt_of_pos (-i) hpos
  rw [Int.neg_tmod] at hq2
  by_cases hs : i.tmod n < 0
  · refine ⟨(i.tmod n + n).toNat, by omega, fun w => ?_⟩
    have he : (((i.tmod n + n).toNat : Nat) : Int) = i.tmod n + n := by omega
    rw [he]
    clear he
    go_enter Try.func23, Try.ntmps23
    go_wp2
    go_ret
    exact ⟨rfl, rfl⟩
  · refine ⟨(i.tmod n).toNat, by omega, fun w => ?_⟩
    have he : (((i.tmod n).toNat : Nat) : Int) = i.tmod n := by omega
    rw [he]
    clear he
    go_enter Try.func23, Try.ntmps23
    go_wp2
    go_ret
    exact ⟨rfl, rfl⟩
theorem res_made (tmps : Array Value) (W : World) (b : Nat) (cs : Array Value) (u : Value) (hp : tmps.getD 2 undef = .pointer (some ⟨b, 0, none⟩)) (hu : tmps.getD 3 undef = u) (hg : W.heap[b]? = some (.cells cs 42 (0, 0))) (hs : some 2 = some cs.size) : (results Try.f21 tmps).run Try.prog W = .ok (.tuple #[.agg cs, u]) W := by
  have hi : (Try.prog.info? 42).map (·.size) = some cs.size := (show (Try.prog.info? 42).map (·.size) = some 2 from by kernel_rfl).trans hs
  rw [results_cell_tmp rfl, hp, hu]
  simp [asAddr, run_loadVar_row W b 42 42 cs (0, 0) _ hg Try.underlying42 rfl hi, Result.andThen]
/-- What made hands back: no disk at all, or two that are alike. -/
def MadeQ (w : World) (e : Ending) (w' : World) : Prop :=
  (e = .returned (.tuple #[.agg #[.pointer none, .pointer none], .bool true]) ∧ Below w.heap.size w w') ∨
  ∃ g gr f, e = .returned (.tuple #[.agg #[.pointer (some ⟨g, 0, none⟩), .pointer (some ⟨gr, 0, none⟩)], .bool true]) ∧ Below w.heap.size w w' ∧ Pr w.heap.size f w' g gr ∧ (∀ k, f k → w.heap.size ≤ k)
theorem pr_new {w w1 w2 w3 : World} {g gr : Nat} {v vr : Value} {room : Int} {T : ByteArray} {s : Nat} {B1 B2 : Nat} (h0 : w.heap.size ≤ B1) (h00 : w.heap.size ≤ B2) (hd : Dk w1 B1 g v room (s : Int) T) (hb : Below w1.heap.size w1 w2) (hr : Rk w2 B2 gr vr room (lay (bytesOf T) s)) (hb2 : Below w2.heap.size w2 w3) (h3 : s ≤ T.size) (h4 : (T.size : Int) ≤ room) (h5 : 0 ≤ room) (h6 : room ≤ 1048576) :
    Pr w.heap.size (fun k => w.heap.size ≤ k ∧ k < w3.heap.size) w3 g gr := by
  have hd3 := (hd.below hb).below hb2
  have hr3 := hr.below hb2
  refine ⟨v, vr, room, T, s, hd3.lower h0, hr3.lower h00, h3, h4, h5, h6, fun k hk => ?_, fun k hk => ?_, fun k hk => hk.2⟩
  · rcases hk with rfl | hk
    · exact ⟨Nat.le_trans h0 hd3.base, hd3.lt⟩
    · exact ⟨Nat.le_trans h0 (hd3.own.lt k hk).1, (hd3.own.lt k hk).2⟩
  · rcases hk with rfl | hk
    · exact ⟨Nat.le_trans h00 hr3.base, hr3.lt⟩
    · exact ⟨Nat.le_trans h00 (own_base hr3.own k hk), own_lt hr3.own k hk⟩
end Go.Proofs.Ytcoodlncjnekoaa.E
