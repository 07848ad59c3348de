/- NamesFull: the walk that its row asks for: a million and more numbers are given, one thing more has none. Conditions: none. -/
import Derived.Test.YtaeijlkogenblaaIxI
namespace Go.Proofs.Ytaeijlkogenblaa.F
open Go.RowKit Go.Proofs.YtaeijlkogenblaaW.Raw Go.Proofs.YtaeijlkogenblaaW.PrintWords Go.Proofs.Ytaeijlkogenblaa.IxI
set_option linter.unusedVariables false
def tri (k : Nat) : List Int := (List.range k).map fun j : Nat => 3 * (j : Int)
def most : Nat := 1048576
theorem tri_len (k : Nat) : (tri k).length = k := by simp [tri]
theorem tri_succ (k : Nat) : tri (k + 1) = tri k ++ [3 * (k : Int)] := by simp [tri, List.range_succ]
theorem tri_get (k j : Nat) (h : j < k) : (tri k)[j]? = some (3 * (j : Int)) := by simp [tri, h]
theorem tri_none (k : Nat) (x : Int) (h : ∀ j : Nat, j < k → x ≠ 3 * (j : Int)) : (tri k).findIdx? (fun b => eqk x b) = none := by
  rw [List.findIdx?_eq_none_iff]
  intro b hb
  simp only [tri, List.mem_map, List.mem_range] at hb
  obtain ⟨j, hj, rfl⟩ := hb
  simp only [eqk, beq_eq_false_iff_ne]
  exact h j hj
theorem tri_some (k j : Nat) (h : j < k) : (tri k).findIdx? (fun b => eqk (3 * (j : Int)) b) = some j := by
  rw [List.findIdx?_eq_some_iff_getElem]
  refine ⟨by rw [tri_len]; exact h, by simp [tri, eqk], fun i hi => ?_⟩
  simp only [tri, eqk, List.getElem_map, List.getElem_range]
  simp
  omega
theorem tri_of (k : Nat) (base g m : Nat) (v : Value) (w : World) (hk : k < most) (h : Idx w base g m v (tri k)) :
    Calls Try.prog 14 #[.pointer (some ⟨g, 0, none⟩), .int .i64 (3 * (k : Int))] w fun e w' => e = .returned (.int .i64 ((k : Int) + 1)) ∧ ∃ v', Idx w' base g m v' (tri (k + 1)) ∧ Below base w w' := by
  have hn := tri_none k (3 * (k : Int)) (fun j hj e => by omega)
  refine (of_new (3 * (k : Int)) (tri k) base g m v w h hn (by rw [tri_len]; exact hk)).mono ?_
  rintro e w' ⟨rfl, v', h1, h2, _⟩
  rw [tri_len, tri_succ]
  exact ⟨rfl, v', h1, h2⟩
section
variable {base g m : Nat} {v : Value} {w : World}
theorem most_eq : (tri most).length = 1048576 := tri_len most
theorem one_none : (tri most).findIdx? (fun b => eqk 1 b) = none := tri_none most 1 (fun j _ => by omega)
theorem c1 (h : Idx w base g m v (tri most)) : Calls Try.prog 14 #[.pointer (some ⟨g, 0, none⟩), .int .i64 1] w fun e w' => e = .returned (.int .i64 0) ∧ w' = w :=
  of_full 1 (tri most) base g m v w h one_none (Nat.le_of_eq most_eq.symm)
theorem c2 (h : Idx w base g m v (tri most)) : Calls Try.prog 15 #[.pointer (some ⟨g, 0, none⟩), .int .i64 1] w fun e w' => e = .returned (.tuple #[.int .i64 0, .bool false]) ∧ w' = w :=
  find_none 1 (tri most) base g m v w h one_none
theorem c3 (h : Idx w base g m v (tri most)) : Calls Try.prog 16 #[.pointer (some ⟨g, 0, none⟩), .int .i64 1048576] w fun e w' => e = .returned (.tuple #[.int .i64 3145725, .bool true]) ∧ w' = w := by
  refine (at_found 1048576 (tri most) base g m v w h (by omega) (by rw [most_eq]; omega)).mono ?_
  rintro e w' ⟨rfl, h2⟩
  refine ⟨?_, h2⟩
  have : rdOf (0 : Int) (tri most) (1048576 - 1) = 3145725 := by
    have h1 := tri_get most 1048575 (by unfold most; omega)
    unfold rdOf
    rw [show ((1048576 : Int) - 1).toNat = 1048575 from by omega, List.getD_eq_getElem?_getD, h1]
    rfl
  rw [this]
theorem c4 (h : Idx w base g m v (tri most)) : Calls Try.prog 17 #[.pointer (some ⟨g, 0, none⟩)] w fun e w' => e = .returned (.int .i64 1048576) ∧ w' = w := by
  refine (len_calls (tri most) base g m v w h).mono ?_
  rintro e w' ⟨rfl, h2⟩
  exact ⟨by rw [most_eq]; rfl, h2⟩
theorem c5 (h : Idx w base g m v (tri most)) : Calls Try.prog 14 #[.pointer (some ⟨g, 0, none⟩), .int .i64 3] w fun e w' => e = .returned (.int .i64 2) ∧ w' = w :=
  of_found 3 (tri most) 1 base g m v w h (tri_some most 1 (by unfold most; omega)) (by rw [most_eq]; omega)
theorem c6 (h : Idx w base g m v (tri most)) : Calls Try.prog 14 #[.pointer (some ⟨g, 0, none⟩), .int .i64 3145725] w fun e w' => e = .returned (.int .i64 1048576) ∧ w' = w := by
  have := of_found 3145725 (tri most) 1048575 base g m v w h (tri_some most 1048575 (by unfold most; omega)) (by rw [most_eq]; omega)
  refine this.mono ?_
  rintro e w' ⟨rfl, h2⟩
  exact ⟨rfl, h2⟩
end
set_option maxRecDepth 100000 in
theorem NamesFull.walk (w : World) : Calls Try.prog 4 #[] w fun e w' => e = .returned (.bool true) ∧ Below w.heap.size w w' := by
  go_enter Try.func4, Try.ntmps4
  go_wp2_with (go_at_call 13; refine (new_calls _).mono ?_; rintro e w1 ⟨g, m, rfl, hI, hb⟩; have HI := Lib.hid hI; have HB := Lib.hid hb; clear hI hb)
  go_loopw [2] (fun i wr => ∃ k v, k ≤ most ∧ i = .int .i64 (k : Nat) ∧ Idx wr w.heap.size g m v (tri k) ∧ Below w.heap.size w wr) (fun i _ => most - (intOf i).toNat)
  case atStart => exact ⟨0, _, Nat.zero_le _, rfl, HI.out, HB.out⟩
  case round =>
    obtain ⟨k, v, hk, rfl, hI, hb⟩ := hrel
    by_cases hlt : k < most
    · have h1 : (k : Int) < 1048576 := by unfold most at hlt; omega
      have HI1 := Lib.hid hI
      have HB1 := Lib.hid hb
      have HL := Lib.hid hlt
      clear hI hb HI HB hlt hk
      go_wp2_with (go_at_call 14; go_must (refine (tri_of k _ g m v _ HL.out HI1.out).mono ?_); rintro e w2 ⟨rfl, v2, h3, h4⟩; have HI3 := Lib.hid h3; have HI4 := Lib.hid h4; clear h3 h4)
      go_roundw
      case rel => exact ⟨k + 1, v2, HL.out, by go_num, HI3.out, HB1.out.trans HI4.out⟩
      case measure => have := HL.out; simp [intOf]; omega
    · obtain rfl : k = most := Nat.le_antisymm hk (Nat.le_of_not_lt hlt)
      have hge : decide (((most : Nat) : Int) < 1048576) = false := by simp [most]
      clear hlt hk HI HB
      have HI1 := Lib.hid hI
      have HB1 := Lib.hid hb
      clear hI hb
      go_wp2_with fail
      refine (c1 HI1.out).mono ?_
      rintro e w2 ⟨rfl, rfl⟩
      go_wp2_with fail
      refine (c2 HI1.out).mono ?_
      rintro e w2 ⟨rfl, rfl⟩
      go_wp2_with fail
      refine (c3 HI1.out).mono ?_
      rintro e w2 ⟨rfl, rfl⟩
      go_wp2_with fail
      refine (c4 HI1.out).mono ?_
      rintro e w2 ⟨rfl, rfl⟩
      go_wp2_with fail
      refine (c5 HI1.out).mono ?_
      rintro e w2 ⟨rfl, rfl⟩
      go_wp2_with fail
      refine (c6 HI1.out).mono ?_
      rintro e w2 ⟨rfl, rfl⟩
      go_wp2_with fail
      go_ret
      exact ⟨rfl, HB1.out⟩
end Go.Proofs.Ytaeijlkogenblaa.F
