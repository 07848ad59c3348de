/- What mean.Relation asks for: sides in a list; about, of a policy that lies in an elder world; once; slices.IndexFunc. Conditions: each theorem's own.
mean.Relation, as plain functions; and what is in it. Conditions: each theorem's own.
mean.Relation, walked. Conditions: the policy reads as it must; its lists are not longer than 16777216, nor is the product of the three.
mean.Mask, walked. Conditions: the policy reads as it must; its lists are not longer than 16777216.
What sizes a policy may have, as a truth that is asked for. Conditions: none. -/
import Derived.Test.YtnkdcekddhmjnaaSB
import Derived.Test.YtnkdcekddhmjnaaF7
import Derived.Laws.BitsAllLaws
namespace Go.Proofs.Ytnkdcekddhmjnaa.M
open Go.RowKit Go.Proofs.YtnkdcekddhmjnaaW.Raw Go.Proofs.YtnkdcekddhmjnaaW.PrintWords Go.Proofs.Ytnkdcekddhmjnaa.F
set_option linter.unusedVariables false
attribute [local go_sem] run_store_float
structure Sd where
  n : ByteArray
  t : Nat
  us : List ByteArray
instance : Inhabited Sd := ⟨⟨ByteArray.empty, 0, []⟩⟩
end Go.Proofs.Ytnkdcekddhmjnaa.M
namespace Go.Proofs.Ytnkdcekddhmjnaa.M
open Go.RowKit Go.Proofs.YtnkdcekddhmjnaaW.Raw Go.Proofs.YtnkdcekddhmjnaaW.PrintWords Go.Proofs.Ytnkdcekddhmjnaa.F
set_option linter.unusedVariables false
end Go.Proofs.Ytnkdcekddhmjnaa.M
namespace Go.Proofs.Ytnkdcekddhmjnaa.M
open Go.RowKit Go.Proofs.YtnkdcekddhmjnaaW.Raw Go.Proofs.YtnkdcekddhmjnaaW.PrintWords Go.Proofs.Ytnkdcekddhmjnaa.F
set_option linter.unusedVariables false
attribute [local go_sem] run_store_float
end Go.Proofs.Ytnkdcekddhmjnaa.M
namespace Go.Proofs.Ytnkdcekddhmjnaa.M
open Go.RowKit Go.Proofs.YtnkdcekddhmjnaaW.Raw Go.Proofs.YtnkdcekddhmjnaaW.PrintWords Go.Proofs.Ytnkdcekddhmjnaa.F
set_option linter.unusedVariables false
attribute [local go_sem] run_store_float
/-- The numbers of those that are so, below 16, as bits. -/
def bitsTo (b : Nat → Bool) : Nat → Nat
  | 0 => 0
  | k + 1 => if k < 16 ∧ b k = true then bitsTo b k ||| 2 ^ k else bitsTo b k
def maskN (p : Pol) (s o : ByteArray) : Nat := bitsTo (fun k => allowsB p ⟨s, o, p.f0.getD k ByteArray.empty⟩) p.f0.length
theorem u16_set {a k : Nat} (ha : a < 65536) (hk : k < 16) : Value.int .u16 (bits .or .u16 (a : Int) (IntKind.u16.wrap (2 ^ k))) = Value.int .u16 ((a ||| 2 ^ k : Nat) : Int) := by
  have h2 : 2 ^ k < 65536 := Nat.pow_lt_pow_right (a := 2) (n := 16) (by decide) hk
  have h3 : (2 : Int) ^ k = ((2 ^ k : Nat) : Int) := by simp
  rw [h3]
  generalize 2 ^ k = b at h2 ⊢
  rw [show IntKind.u16.wrap (b : Int) = (b : Int) from by rw [IntKind.wrap_u16]; omega, u16_or_nat a b ha h2]
set_option maxRecDepth 100000 in
set_option maxHeartbeats 4000000 in
theorem mask_calls (p : Pol) (c : Array Value) (n1 n2 : ByteArray) (w : World) (hk : k34.K w p c.toList) (hn : OkP p) :
    Calls Try.prog 24 #[.agg c, .string n1, .string n2] w fun e w' => e = .returned (.int .u16 (maskN p n1 n2)) ∧ Below w.heap.size w w' := by
  have HK0 := Lib.hid hk
  obtain ⟨A0, c0, A1, c1, A2, c2, A3, c3, A4, c4, A5, c5, A6, c6, A7, c7, A8, c8, A9, c9, A10, c10, e_, l0, g0, l1, g1, l2, g2, l3, g3, l4, g4, l5, g5, l6, g6, l7, g7, l8, g8, l9, g9, l10, g10⟩ := k34_open hk
  obtain rfl : c = #[.slice A0 p.f0.length c0, .slice A1 p.f1.length c1, .slice A2 p.f2.length c2, .slice A3 p.f3.length c3, .slice A4 p.f4.length c4, .slice A5 p.f5.length c5, .slice A6 p.f6.length c6, .slice A7 p.f7.length c7, .slice A8 p.f8.length c8, .slice A9 p.f9.length c9, .slice A10 p.f10.length c10] := by cases c; simpa using e_
  clear e_
  have H0 := Lib.hid g0
  have HN := Lib.hid hn
  clear hk g0 g1 g2 g3 g4 g5 g6 g7 g8 g9 g10 l1 l2 l3 l4 l5 l6 l7 l8 l9 l10 hn
  obtain ⟨W1, hW1⟩ : ∃ W1, W1 = w.alloc (Obj.cells #[Value.slice A0 p.f0.length c0, Value.slice A1 p.f1.length c1, Value.slice A2 p.f2.length c2, Value.slice A3 p.f3.length c3, Value.slice A4 p.f4.length c4, Value.slice A5 p.f5.length c5, Value.slice A6 p.f6.length c6, Value.slice A7 p.f7.length c7, Value.slice A8 p.f8.length c8, Value.slice A9 p.f9.length c9, Value.slice A10 p.f10.length c10] 34) := ⟨_, rfl⟩
  have hb : Below w.heap.size w W1 := by rw [hW1]; exact (Below.refl _ w).alloc (Nat.le_refl _) _
  have r0 : W1.heap[w.heap.size]? = some (.cells #[Value.slice A0 p.f0.length c0, Value.slice A1 p.f1.length c1, Value.slice A2 p.f2.length c2, Value.slice A3 p.f3.length c3, Value.slice A4 p.f4.length c4, Value.slice A5 p.f5.length c5, Value.slice A6 p.f6.length c6, Value.slice A7 p.f7.length c7, Value.slice A8 p.f8.length c8, Value.slice A9 p.f9.length c9, Value.slice A10 p.f10.length c10] 34 (0, 0)) := by rw [hW1]; exact heap_new _ _
  have HW1 := Lib.hid hW1
  have HB := Lib.hid hb
  have R0 := Lib.hid r0
  clear hW1 hb r0
  go_enter Try.func24, Try.ntmps24
  go_wp2_with fail
  rw [← HW1.out]
  refine (subject_any p _ n1 W1 (k34.K_below HB.out HK0.out) HN.out).mono ?_
  rintro e W2 ⟨nm, tr, mo, ok, rfl, hS, hb2⟩
  obtain ⟨W3, hW3⟩ : ∃ W3, W3 = W2.alloc (Obj.cells #[Value.string nm, Value.float .f64 tr, Value.map mo] 65) := ⟨_, rfl⟩
  have hb3 : Below W1.heap.size W1 W3 := by rw [hW3]; exact hb2.alloc hb2.size _
  have hs3 : W3.heap[W2.heap.size]? = some (.cells #[Value.string nm, Value.float .f64 tr, Value.map mo] 65 (0, 0)) := by rw [hW3]; exact heap_new _ _
  have hS3 : SubP p n1 W3 nm tr mo ok := hS.below (by rw [hW3]; exact (Below.refl _ _).alloc (Nat.le_refl _) _)
  have y0 := (hb3.block _ (lt_of_get R0.out)).trans R0.out
  have q0 := (blk_cell y0 0).trans (Eq.refl (some (Value.slice A0 p.f0.length c0)))
  have q1 := (blk_cell y0 1).trans (Eq.refl (some (Value.slice A1 p.f1.length c1)))
  have q2 := (blk_cell y0 2).trans (Eq.refl (some (Value.slice A2 p.f2.length c2)))
  have q3 := (blk_cell y0 3).trans (Eq.refl (some (Value.slice A3 p.f3.length c3)))
  have q4 := (blk_cell y0 4).trans (Eq.refl (some (Value.slice A4 p.f4.length c4)))
  have q5 := (blk_cell y0 5).trans (Eq.refl (some (Value.slice A5 p.f5.length c5)))
  have q6 := (blk_cell y0 6).trans (Eq.refl (some (Value.slice A6 p.f6.length c6)))
  have q7 := (blk_cell y0 7).trans (Eq.refl (some (Value.slice A7 p.f7.length c7)))
  have q8 := (blk_cell y0 8).trans (Eq.refl (some (Value.slice A8 p.f8.length c8)))
  have q9 := (blk_cell y0 9).trans (Eq.refl (some (Value.slice A9 p.f9.length c9)))
  have q10 := (blk_cell y0 10).trans (Eq.refl (some (Value.slice A10 p.f10.length c10)))
  have HB3 := Lib.hid hb3
  have HS3 := Lib.hid hs3
  have HSP := Lib.hid hS3
  have HW3 := Lib.hid hW3
  rw [hW3] at q0 q1 q2 q3 q4 q5 q6 q7 q8 q9 q10
  clear hW3 hb3 hs3 hS3 hS hb2 y0
  go_wp2_with fail
  rw [← HW3.out]
  clear q0 q1 q2 q3 q4 q5 q6 q7 q8 q9 q10
  refine (object_any p _ n2 W3 (k34.K_below (HB.out.trans (HB3.out.mono HB.out.size)) HK0.out) HN.out).mono ?_
  rintro e W4 ⟨nm', tr', mo', is, rfl, hO, hb4⟩
  obtain ⟨W5, hW5⟩ : ∃ W5, W5 = W4.alloc (Obj.cells #[Value.string nm', Value.float .f64 tr', Value.map mo'] 65) := ⟨_, rfl⟩
  have hb5 : Below W3.heap.size W3 W5 := by rw [hW5]; exact hb4.alloc hb4.size _
  have hs5 : W5.heap[W4.heap.size]? = some (.cells #[Value.string nm', Value.float .f64 tr', Value.map mo'] 65 (0, 0)) := by rw [hW5]; exact heap_new _ _
  have hO5 : ObjP p n2 W5 nm' tr' mo' is := hO.below (by rw [hW5]; exact (Below.refl _ _).alloc (Nat.le_refl _) _)
  have hb15 : Below W1.heap.size W1 W5 := HB3.out.trans (hb5.mono HB3.out.size)
  have y0 := (hb15.block _ (lt_of_get R0.out)).trans R0.out
  have HY0 := Lib.hid y0
  have HSA := Lib.hid ((hb5.block _ (lt_of_get HS3.out)).trans HS3.out)
  have HSB := Lib.hid hs5
  have HSP5 := Lib.hid (HSP.out.below hb5)
  have HOP5 := Lib.hid hO5
  have HW5 := Lib.hid hW5
  have HBw := Lib.hid (HB.out.trans (hb15.mono HB.out.size))
  have hz : ∀ k, bitsTo (fun _ => false) k = 0 := by
    intro k
    induction k with
    | zero => rfl
    | succ k ih => simp [bitsTo, ih]
  have HZ := Lib.hid hz
  clear hW5 hb5 hs5 hO5 hO hb4 y0 hb15 hz
  cases ok with
  | false =>
    have hF : maskN p n1 n2 = 0 := by
      have : ∀ a, allowsB p ⟨n1, n2, a⟩ = false := by
        intro a
        rcases HSP5.out with ⟨_, h⟩ | ⟨_, h, _⟩
        · simp [allowsB, h]
        · cases h
      unfold maskN
      rw [show (fun k => allowsB p ⟨n1, n2, p.f0.getD k ByteArray.empty⟩) = fun _ => false from funext fun k => this _]
      exact HZ.out _
    have HF := Lib.hid hF
    clear hF
    go_wp2_with fail
    go_ret
    rw [← HW5.out]
    exact ⟨by rw [HF.out]; rfl, HBw.out⟩
  | true =>
    obtain ⟨m1, h1, rfl, rfl, htr, hset1⟩ : ∃ m, true = true ∧ nm = n1 ∧ mo = some m ∧ trustOf p.f1 n1 = some tr ∧ SetOf W5 m (upS p n1) := by
      rcases HSP5.out with ⟨h, _⟩ | h
      · cases h
      · exact h
    clear h1
    have HTR := Lib.hid htr
    have HSET1 := Lib.hid hset1
    clear htr hset1
    cases is with
    | false =>
      have hF : maskN p nm n2 = 0 := by
        have : ∀ a, allowsB p ⟨nm, n2, a⟩ = false := by
          intro a
          rcases HOP5.out with ⟨_, h⟩ | ⟨_, h, _⟩
          · simp [allowsB, HTR.out, h]
          · cases h
        unfold maskN
        rw [show (fun k => allowsB p ⟨nm, n2, p.f0.getD k ByteArray.empty⟩) = fun _ => false from funext fun k => this _]
        exact HZ.out _
      have HF := Lib.hid hF
      clear hF
      go_wp2_with fail
      go_ret
      rw [← HW5.out]
      exact ⟨by rw [HF.out]; rfl, HBw.out⟩
    | true =>
      obtain ⟨m2, h1, rfl, rfl, rfl, hob, hset2⟩ : ∃ m, true = true ∧ nm' = n2 ∧ tr' = 0 ∧ mo' = some m ∧ memB p.f3 n2 = true ∧ SetOf W5 m (upO p n2) := by
        rcases HOP5.out with ⟨h, _⟩ | h
        · cases h
        · exact h
      clear h1
      have HOB := Lib.hid hob
      have HSET2 := Lib.hid hset2
      clear hob hset2
      have q0 := (blk_cell HY0.out 0).trans (Eq.refl (some (Value.slice A0 p.f0.length c0)))
      have q1 := (blk_cell HY0.out 1).trans (Eq.refl (some (Value.slice A1 p.f1.length c1)))
      have q2 := (blk_cell HY0.out 2).trans (Eq.refl (some (Value.slice A2 p.f2.length c2)))
      have q3 := (blk_cell HY0.out 3).trans (Eq.refl (some (Value.slice A3 p.f3.length c3)))
      have q4 := (blk_cell HY0.out 4).trans (Eq.refl (some (Value.slice A4 p.f4.length c4)))
      have q5 := (blk_cell HY0.out 5).trans (Eq.refl (some (Value.slice A5 p.f5.length c5)))
      have q6 := (blk_cell HY0.out 6).trans (Eq.refl (some (Value.slice A6 p.f6.length c6)))
      have q7 := (blk_cell HY0.out 7).trans (Eq.refl (some (Value.slice A7 p.f7.length c7)))
      have q8 := (blk_cell HY0.out 8).trans (Eq.refl (some (Value.slice A8 p.f8.length c8)))
      have q9 := (blk_cell HY0.out 9).trans (Eq.refl (some (Value.slice A9 p.f9.length c9)))
      have q10 := (blk_cell HY0.out 10).trans (Eq.refl (some (Value.slice A10 p.f10.length c10)))
      have sa0 := (blk_cell HSA.out 0).trans (Eq.refl (some (Value.string nm)))
      have sa1 := (blk_cell HSA.out 1).trans (Eq.refl (some (Value.float .f64 tr)))
      have sa2 := (blk_cell HSA.out 2).trans (Eq.refl (some (Value.map (some m1))))
      have sb0 := (blk_cell HSB.out 0).trans (Eq.refl (some (Value.string nm')))
      have sb1 := (blk_cell HSB.out 1).trans (Eq.refl (some (Value.float .f64 0)))
      have sb2 := (blk_cell HSB.out 2).trans (Eq.refl (some (Value.map (some m2))))
      rw [HW5.out] at q0 q1 q2 q3 q4 q5 q6 q7 q8 q9 q10 sa0 sa1 sa2 sb0 sb1 sb2
      go_wp2_with fail
      rw [← HW5.out]
      clear q0 q1 q2 q3 q4 q5 q6 q7 q8 q9 q10 sa0 sa1 sa2 sb0 sb1 sb2
      refine (about_calls p _ nm nm' tr 0 m1 m2 (upS p nm) (upO p nm') W5 (k34.K_below HBw.out HK0.out) HSET1.out HSET2.out HN.out.r).mono ?_
      rintro e W6 ⟨v, rfl, hNR, hb6⟩
      obtain ⟨AR, cR, rfl⟩ := Kd.N_slice hNR
      obtain ⟨-, hcR, hCR⟩ := Kd.N_reads' hNR
      obtain ⟨rs, hrs⟩ : ∃ rs, rs = aboutL p tr (upS p nm) (upO p nm') := ⟨_, rfl⟩
      rw [← hrs] at hcR hCR ⊢
      have HRS := Lib.hid hrs
      have HCR := Lib.hid hCR
      have HY6 := Lib.hid ((hb6.block _ (lt_of_get HY0.out)).trans HY0.out)
      have HA6 := Lib.hid ((hb6.block _ (lt_of_get HSA.out)).trans HSA.out)
      have HB6 := Lib.hid ((hb6.block _ (lt_of_get HSB.out)).trans HSB.out)
      have HBw6 := Lib.hid (HBw.out.trans (hb6.mono HBw.out.size))
      have q0 := (blk_cell HY6.out 0).trans (Eq.refl (some (Value.slice A0 p.f0.length c0)))
      have hal : p.f0.length ≤ 16777216 := HN.out.a
      clear hrs hNR hCR hb6
      go_wp2_with fail
      clear q0
      obtain ⟨F, hF⟩ : ∃ F : Nat → Nat, F = bitsTo (fun k => allowsB p ⟨nm, nm', p.f0.getD k ByteArray.empty⟩) := ⟨_, rfl⟩
      have HF := Lib.hid hF
      clear hF
      go_loopw [12, 40] (fun v i wr => ∃ k : Nat, k ≤ p.f0.length ∧ i = .int .i64 (k : Nat) ∧ v = .int .u16 (F k : Nat) ∧ Below W6.heap.size W6 wr) (fun _ i _ => p.f0.length - (intOf i).toNat)
      case atStart => exact ⟨0, Nat.zero_le _, rfl, by rw [HF.out]; rfl, Below.refl _ _⟩
      case round =>
        obtain ⟨k, hk, rfl, rfl, hB⟩ := hrel
        have hlt16 : F k < 65536 := by
          have : ∀ (b : Nat → Bool) j, bitsTo b j < 65536 := by
            intro b j
            induction j with
            | zero => exact (by decide : 0 < 65536)
            | succ j ih =>
              unfold bitsTo
              split
              · rename_i h
                exact Nat.or_lt_two_pow (n := 16) ih (Nat.pow_lt_pow_right (by decide) h.1)
              · exact ih
          rw [HF.out]
          exact this _ _
        have HBR := Lib.hid hB
        have HCW := Lib.hid (Kd.C_below H0.out (HBw6.out.trans (hB.mono HBw6.out.size)))
        have HBwr := Lib.hid (HBw6.out.trans (hB.mono HBw6.out.size))
        have yp := (hB.block _ (lt_of_get HY6.out)).trans HY6.out
        have ya := (hB.block _ (lt_of_get HA6.out)).trans HA6.out
        have yb := (hB.block _ (lt_of_get HB6.out)).trans HB6.out
        clear hB
        by_cases hlt : k < p.f0.length
        · obtain ⟨ad, rfl, e0⟩ := str_at HCW.out k hlt
          obtain ⟨x, hx⟩ : ∃ x, x = p.f0.getD k ByteArray.empty := ⟨_, rfl⟩
          rw [← hx] at e0
          have HX := Lib.hid hx
          have hpx : memB p.f0 x = true := memB_iff.2 (by
            rw [hx, List.getD_eq_getElem?_getD, List.getElem?_eq_getElem hlt]
            exact List.getElem_mem _)
          have hab : allowsB p ⟨nm, nm', x⟩ = allowB rs p.f10 ⟨nm, nm', x⟩ := by
            simp [allowsB, HTR.out, HOB.out, hpx, HRS.out]
          have HFS := Lib.hid (show F (k + 1) = if k < 16 ∧ allowB rs p.f10 ⟨nm, nm', x⟩ = true then F k ||| 2 ^ k else F k from by
            rw [HF.out, ← hab, hx]
            rfl)
          clear hx hpx hab
          have q0 := (blk_cell yp 0).trans (Eq.refl (some (Value.slice (some ad) p.f0.length c0)))
          have q1 := (blk_cell yp 1).trans (Eq.refl (some (Value.slice A1 p.f1.length c1)))
          have q2 := (blk_cell yp 2).trans (Eq.refl (some (Value.slice A2 p.f2.length c2)))
          have q3 := (blk_cell yp 3).trans (Eq.refl (some (Value.slice A3 p.f3.length c3)))
          have q4 := (blk_cell yp 4).trans (Eq.refl (some (Value.slice A4 p.f4.length c4)))
          have q5 := (blk_cell yp 5).trans (Eq.refl (some (Value.slice A5 p.f5.length c5)))
          have q6 := (blk_cell yp 6).trans (Eq.refl (some (Value.slice A6 p.f6.length c6)))
          have q7 := (blk_cell yp 7).trans (Eq.refl (some (Value.slice A7 p.f7.length c7)))
          have q8 := (blk_cell yp 8).trans (Eq.refl (some (Value.slice A8 p.f8.length c8)))
          have q9 := (blk_cell yp 9).trans (Eq.refl (some (Value.slice A9 p.f9.length c9)))
          have q10 := (blk_cell yp 10).trans (Eq.refl (some (Value.slice A10 p.f10.length c10)))
          have a0 := (blk_cell ya 0).trans (Eq.refl (some (Value.string nm)))
          have b0 := (blk_cell yb 0).trans (Eq.refl (some (Value.string nm')))
          clear yp ya yb
          by_cases h16 : k < 16
          · go_wp2_with fail
            clear q0 q1 q2 q3 q4 q5 q6 q7 q8 q9 q10 a0 b0 e0
            refine (allows_calls p _ rs AR cR ⟨nm, nm', x⟩ wr (k34.K_below HBwr.out HK0.out) (Kd.C_below HCR.out HBR.out) hcR).mono ?_
            rintro e W10 ⟨rfl, hb10⟩
            have HB10 := Lib.hid (HBR.out.trans (hb10.mono HBR.out.size))
            clear hb10
            cases hq : allowB rs p.f10 ⟨nm, nm', x⟩ with
            | false =>
              have HQ := Lib.hid hq
              clear hq
              go_wp2_with fail
              go_roundw
              case rel => exact ⟨k + 1, hlt, by go_num, by rw [HFS.out, HQ.out]; simp, HB10.out⟩
              case measure => simp [intOf]; omega
            | true =>
              have HQ := Lib.hid hq
              clear hq
              go_wp2_with fail
              go_roundw
              case rel => exact ⟨k + 1, hlt, by go_num, by rw [HFS.out, HQ.out, if_pos ⟨h16, rfl⟩]; exact u16_set hlt16 h16, HB10.out⟩
              case measure => simp [intOf]; omega
          · go_wp2_with fail
            go_roundw
            case rel => exact ⟨k + 1, hlt, by go_num, by rw [HFS.out, if_neg (fun h => h16 h.1)], HBR.out⟩
            case measure => simp [intOf]; omega
        · obtain rfl : k = p.f0.length := by omega
          go_wp2_with fail
          go_ret
          exact ⟨by rw [HF.out]; rfl, HBwr.out⟩
end Go.Proofs.Ytnkdcekddhmjnaa.M
namespace Go.Proofs.Ytnkdcekddhmjnaa.M
open Go.RowKit Go.Proofs.YtnkdcekddhmjnaaW.Raw Go.Proofs.YtnkdcekddhmjnaaW.PrintWords Go.Proofs.Ytnkdcekddhmjnaa.F
set_option linter.unusedVariables false
def okB (p : Pol) : Bool := decide (p.f5.length + p.f6.length ≤ 16777215) && decide (p.f7.length + p.f8.length ≤ 16777215) && decide (p.f9.length ≤ 16777216) && decide (p.f0.length ≤ 16777216) && decide (p.f1.length ≤ 16777216) && decide (p.f3.length ≤ 16777216)
theorem okB_iff {p : Pol} : okB p = true ↔ OkP p := by
  simp only [okB, Bool.and_eq_true, decide_eq_true_eq]
  exact ⟨fun ⟨⟨⟨⟨⟨h1, h2⟩, h3⟩, h4⟩, h5⟩, h6⟩ => ⟨h1, h2, h3, h4, h5, h6⟩, fun h => ⟨⟨⟨⟨⟨h.s, h.o⟩, h.r⟩, h.a⟩, h.u⟩, h.b⟩⟩
end Go.Proofs.Ytnkdcekddhmjnaa.M
