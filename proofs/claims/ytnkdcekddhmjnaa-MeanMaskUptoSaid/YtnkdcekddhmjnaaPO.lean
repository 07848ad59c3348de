/- The document's Mask (gatehouseref08) is mean's, plainly. Conditions: no list, and no rule's list of actions, is longer than 1048576. -/
import Derived.Test.YtnkdcekddhmjnaaPN
import Derived.Test.YtnkdcekddhmjnaaF13
namespace Go.Proofs.Ytnkdcekddhmjnaa.M
open Go.RowKit Go.Proofs.YtnkdcekddhmjnaaW.PrintWords Go.Proofs.Ytnkdcekddhmjnaa.F
set_option linter.unusedVariables false
theorem bits_stay (b : Nat → Bool) (i d : Nat) (h : 16 ≤ i) : bitsTo b (i + d) = bitsTo b i := by
  induction d with
  | zero => rfl
  | succ d ih =>
    show (if i + d < 16 ∧ b (i + d) = true then bitsTo b (i + d) ||| 2 ^ (i + d) else bitsTo b (i + d)) = _
    rw [if_neg (by omega), ih]
theorem bits_lt (b : Nat → Bool) (j : Nat) : bitsTo b j < 65536 := by
  induction j with
  | zero => exact (by decide : 0 < 65536)
  | succ j ih =>
    unfold bitsTo
    split
    · rename_i h
      exact Nat.or_lt_two_pow (n := 16) ih (Nat.pow_lt_pow_right (by decide) h.1)
    · exact ih
theorem bits_set {a k : Nat} (ha : a < 65536) (hk : k < 16) : Go.bits .or .u16 (a : Int) (shl .u16 1 (k : Int)) = ((a ||| 2 ^ k : Nat) : Int) := by
  have h := u16_set ha hk
  injection h with _ h
  rw [← h]
  unfold shl
  rw [Int.toNat_natCast, Nat.min_eq_left (show k ≤ IntKind.u16.bits from Nat.le_of_lt hk), Int.one_mul]
theorem rmask_l0 (p : Pol) (s o : ByteArray) (hs : Sz p) (d : Nat) : ∀ i : Nat, i ≤ p.f0.length → p.f0.length - i = d →
    Evt (fun k => gatehouseref08_Mask.l0 k s o ((bitsTo (fun k => allowsB p ⟨s, o, p.f0.getD k ByteArray.empty⟩) i : Nat) : Int) (i : Int) p.f0 p.f1 p.f2 p.f3 p.f4 p.f5 p.f6 p.f7 p.f8 p.f9 p.f10) ((maskN p s o : Nat) : Int) := by
  have hl := hs.l0
  obtain ⟨b, hb⟩ : ∃ b : Nat → Bool, b = fun k => allowsB p ⟨s, o, p.f0.getD k ByteArray.empty⟩ := ⟨_, rfl⟩
  unfold maskN
  rw [← hb]
  induction d with
  | zero =>
    intro i h1 hd
    obtain rfl : i = p.f0.length := by omega
    have h : Evt (fun k => gatehouseref08_Mask.j1 k s o ((bitsTo b p.f0.length : Nat) : Int) (p.f0.length : Int) false p.f0 p.f1 p.f2 p.f3 p.f4 p.f5 p.f6 p.f7 p.f8 p.f9 p.f10) ((bitsTo b p.f0.length : Nat) : Int) := by
      refine Evt.now fun k => ?_
      simp only [gatehouseref08_Mask.j1]
      rw [if_neg (by simp)]
    refine h.step fun k => ?_
    simp only [gatehouseref08_Mask.l0]
    rw [if_neg (by omega)]
  | succ d ih =>
    intro i h1 hd
    have hlt : i < p.f0.length := by omega
    by_cases h16 : i < 16
    · have ha := rallows_f p ⟨s, o, p.f0[i]⟩ hs
      have eb : b i = allowsB p ⟨s, o, p.f0[i]⟩ := by rw [hb]; simp [hlt]
      rw [← eb] at ha
      have hn := ih (i + 1) (by omega) (by omega)
      have e2 : bitsTo b (i + 1) = if b i = true then bitsTo b i ||| 2 ^ i else bitsTo b i := by
        show (if i < 16 ∧ b i = true then _ else _) = _
        cases b i <;> simp [h16]
      have h : Evt (fun k => gatehouseref08_Mask.j1 k s o ((bitsTo b i : Nat) : Int) (i : Int) (decide ((i : Int) < 16)) p.f0 p.f1 p.f2 p.f3 p.f4 p.f5 p.f6 p.f7 p.f8 p.f9 p.f10) ((bitsTo b p.f0.length : Nat) : Int) := by
        refine (Evt.bind ha (f := fun k x => if x = true then (gatehouseref08_Mask.l0 k s o (Go.bits .or .u16 ((bitsTo b i : Nat) : Int) (shl .u16 1 (i : Int))) (wrap64 ((i : Int) + 1)) p.f0 p.f1 p.f2 p.f3 p.f4 p.f5 p.f6 p.f7 p.f8 p.f9 p.f10) else (gatehouseref08_Mask.l0 k s o ((bitsTo b i : Nat) : Int) (wrap64 ((i : Int) + 1)) p.f0 p.f1 p.f2 p.f3 p.f4 p.f5 p.f6 p.f7 p.f8 p.f9 p.f10)) ?_).step fun k => ?_
        · rw [w1 (by omega)]
          cases hq : b i with
          | true =>
            rw [hq, if_pos rfl] at e2
            rw [bits_set (bits_lt b i) h16, ← e2]
            exact hn.same fun k => if_pos rfl
          | false =>
            rw [hq, if_neg (by simp)] at e2
            rw [← e2]
            exact hn.same fun k => if_neg (by simp)
        · simp only [gatehouseref08_Mask.j1]
          rw [if_pos (decide_eq_true (by omega)), if_pos (by omega), if_pos (by omega), rdStr hlt]
      refine h.step fun k => ?_
      simp only [gatehouseref08_Mask.l0]
      rw [if_pos (by omega)]
    · have e2 : bitsTo b p.f0.length = bitsTo b i := by
        have := bits_stay b i (p.f0.length - i) (by omega)
        rwa [show i + (p.f0.length - i) = p.f0.length by omega] at this
      rw [e2]
      have h : Evt (fun k => gatehouseref08_Mask.j1 k s o ((bitsTo b i : Nat) : Int) (i : Int) (decide ((i : Int) < 16)) p.f0 p.f1 p.f2 p.f3 p.f4 p.f5 p.f6 p.f7 p.f8 p.f9 p.f10) ((bitsTo b i : Nat) : Int) := by
        refine Evt.now fun k => ?_
        simp only [gatehouseref08_Mask.j1]
        rw [if_neg (by simp; omega)]
      refine h.step fun k => ?_
      simp only [gatehouseref08_Mask.l0]
      rw [if_pos (by omega)]
theorem rmask_f (p : Pol) (s o : ByteArray) (hs : Sz p) : Evt (fun k => gatehouseref08_Mask.f k p.f0 p.f1 p.f2 p.f3 p.f4 p.f5 p.f6 p.f7 p.f8 p.f9 p.f10 s o) ((maskN p s o : Nat) : Int) := rmask_l0 p s o hs p.f0.length 0 (Nat.zero_le _) (by omega)
end Go.Proofs.Ytnkdcekddhmjnaa.M
