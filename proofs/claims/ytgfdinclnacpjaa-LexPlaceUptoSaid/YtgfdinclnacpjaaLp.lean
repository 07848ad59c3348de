/- LexPlace: the walk that its row asks for. Condition: the row's own bound on the bulk. -/
import Derived.Test.YtgfdinclnacpjaaPw
import Derived.Test.YtgfdinclnacpjaaOpens
namespace Go.Proofs.Ytgfdinclnacpjaa.F
open Go.RowKit Go.Lib Go.Proofs.YtgfdinclnacpjaaW.PrintWords
set_option linter.unusedVariables false
set_option maxHeartbeats 1000000 in
set_option maxRecDepth 100000 in
theorem lex_walk (s : ByteArray) (q : Int) (w : World) (hs : s.size ≤ 1048576) :
    Calls Try.prog 3 #[.string s, .int .i64 q] w fun e w' => e = .returned (.bool true) ∧ Below w.heap.size w w' := by
  have CR := Lib.hid (fun W => gatehouseref02_Place.calls (3000000 + 1) s q (placeR s q).1 (placeR s q).2 W (rplace_f 3000000 (Nat.le_refl _) s hs q))
  obtain ⟨a, b, hab, CP⟩ : ∃ a b : Int, placeR s q = (a, b) ∧ RowKit.Hid (Calls Try.prog 4 #[.string s, .int .i64 q] w fun e w' => e = .returned (.tuple #[.int .i64 a, .int .i64 b]) ∧ Below w.heap.size w w') := by
    by_cases c : q < 0 ∨ (s.size : Int) < q
    · refine ⟨0, 0, ?_, Lib.hid (place_none s q w c)⟩
      unfold placeR
      rcases c with c | c
      · rw [if_pos c]
      · by_cases c2 : q < 0
        · rw [if_pos c2]
        · rw [if_neg c2, if_pos c]
    · obtain ⟨n, hn⟩ : ∃ n : Nat, q = (n : Int) := ⟨q.toNat, by omega⟩
      subst hn
      exact ⟨_, _, (place_eq s n (by omega)).1, Lib.hid (place_calls s n w hs (by omega))⟩
  rw [hab] at CR
  clear hab hs
  have q1 : (a == a) = true := beq_self_eq_true _
  have q2 : (b == b) = true := beq_self_eq_true _
  go_enter Try.func3, Try.ntmps3
  go_wp2_with fail
  refine CP.out.mono ?_
  rintro e w1 ⟨rfl, hb⟩
  have HB1 := Lib.hid hb
  clear hb
  go_wp2_with fail
  refine (CR.out _).mono ?_
  rintro e w2 ⟨rfl, hb⟩
  have HB2 := Lib.hid (below_step HB1.out hb)
  clear hb
  go_wp2_with fail
  go_ret
  exact ⟨rfl, HB2.out⟩
theorem LexPlace.walk (x0 : ByteArray) (v0 : Value) (x1 : Int) (v1 : Value) (w : World) (hk0 : Kd.K Kd.string w x0 [v0]) (hg0 : x0.size ≤ 140737488351232) (hk1 : Kd.K (Kd.int .i64) w x1 [v1]) (hg1 : (Lit.int .i64 x1).wf = true) (hb : (x0.size + 1) + 1 ≤ 1048576) :
    Calls Try.prog 3 #[v0, v1] w fun e w' => e = .returned (.bool true) ∧ Below w.heap.size w w' := by
  have h0 : [v0] = [Value.string x0] := hk0
  injection h0 with h0
  subst h0
  have h1 : [v1] = [Value.int .i64 x1] := hk1
  injection h1 with h1
  subst h1
  exact lex_walk x0 x1 w (by omega)
end Go.Proofs.Ytgfdinclnacpjaa.F
