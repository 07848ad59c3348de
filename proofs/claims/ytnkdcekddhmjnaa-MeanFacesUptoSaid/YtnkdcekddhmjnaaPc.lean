/- MeanFaces, plainly: what the print computes is true. Conditions: each theorem's own. -/
import Derived.Test.YtnkdcekddhmjnaaPA
import Derived.Test.YtnkdcekddhmjnaaMx
import Derived.Test.YtnkdcekddhmjnaaMy
import Derived.Test.YtnkdcekddhmjnaaF13
namespace Go.Proofs.Ytnkdcekddhmjnaa.M
open Go.RowKit Go.Proofs.YtnkdcekddhmjnaaW.Raw Go.Proofs.YtnkdcekddhmjnaaW.PrintWords Go.Proofs.Ytnkdcekddhmjnaa.F
set_option linter.unusedVariables false
theorem bits_test (b : Nat → Bool) (n m : Nat) : (bitsTo b n).testBit m = (decide (m < n ∧ m < 16) && b m) := by
  induction n with
  | zero => simp [bitsTo]
  | succ n ih =>
    unfold bitsTo
    by_cases h : n < 16 ∧ b n = true
    · rw [if_pos h, Nat.testBit_or, ih, Nat.testBit_two_pow]
      by_cases hm : n = m
      · subst hm
        simp [h.1, h.2]
      · have : (m < n + 1 ∧ m < 16) ↔ (m < n ∧ m < 16) := by omega
        simp [this, hm]
    · rw [if_neg h, ih]
      by_cases hm : n = m
      · subst hm
        by_cases h16 : n < 16
        · have : b n = false := by
            cases hb : b n with
            | false => rfl
            | true => exact absurd ⟨h16, hb⟩ h
          simp [this]
        · simp [h16]
      · have : (m < n + 1 ∧ m < 16) ↔ (m < n ∧ m < 16) := by omega
        simp [this]
theorem bits_lt (b : Nat → Bool) (n m : Nat) (h : n ≤ m ∨ 16 ≤ m) : bitsTo b n < 2 ^ m := by
  refine Nat.lt_pow_two_of_testBit _ fun i hi => ?_
  rw [bits_test]
  have : ¬ (i < n ∧ i < 16) := by omega
  simp [this]
theorem mask_lt (p : Pol) (s o : ByteArray) : maskN p s o < 65536 := bits_lt _ _ 16 (.inr (Nat.le_refl _))
theorem mask_div (p : Pol) (s o : ByteArray) (m : Nat) (h : p.f0.length ≤ m ∨ 16 ≤ m) : maskN p s o / 2 ^ m = 0 := Nat.div_eq_of_lt (bits_lt _ _ m h)
theorem mask_bit (p : Pol) (s o : ByteArray) (m : Nat) (h : m < p.f0.length) (h16 : m < 16) : (((maskN p s o / 2 ^ m % 2 : Nat) : Int) == 1) = allowsB p ⟨s, o, p.f0[m]⟩ := by
  have h1 := bits_test (fun k => allowsB p ⟨s, o, p.f0.getD k ByteArray.empty⟩) p.f0.length m
  rw [Nat.testBit_eq_decide_div_mod_eq] at h1
  have h2 : p.f0.getD m ByteArray.empty = p.f0[m] := by rw [List.getD_eq_getElem?_getD, List.getElem?_eq_getElem h]; rfl
  rw [h2] at h1
  simp only [h, h16, and_self, decide_true, Bool.true_and] at h1
  rw [← h1, Bool.eq_iff_iff, beq_iff_eq, decide_eq_true_eq]
  unfold maskN
  omega
theorem w0 {q : Nat} (h : q < 4611686018427387904) : wrap64 (q : Int) = (q : Int) := by unfold wrap64; omega
variable (p : Pol) (hk : okB p = true)
noncomputable abbrev wantL (p : Pol) : List Tri := (allT p).filter (allowsB p)
theorem want_has {s o a : ByteArray} (h : (⟨s, o, a⟩ : Tri) ∈ allT p) : hasB (wantL p) ⟨s, o, a⟩ = allowsB p ⟨s, o, a⟩ := by
  rw [Bool.eq_iff_iff, hasB_iff, List.mem_filter]
  exact ⟨fun h => h.2, fun h' => ⟨h, h'⟩⟩
theorem faces_l3 (ok : Bool) (hw : (wantL p).length ≤ 4611686018427387904) (i j : Nat) (hi : i < p.f1.length) (hj : j < p.f3.length) (hA : p.f0.length ≤ 16777216) (hO : p.f3.length ≤ 16777216) (r : Bool) (h : Evt (fun k => gatehouselaw08_MeanFaces.l2 k ok (wantL p) (i : Int) ((j + 1 : Nat) : Int) p.f0 p.f1 p.f2 p.f3 p.f4 p.f5 p.f6 p.f7 p.f8 p.f9 p.f10) r) (d : Nat) :
    ∀ m : Nat, m ≤ p.f0.length → p.f0.length - m = d → Evt (fun k => gatehouselaw08_MeanFaces.l3 k ok (wantL p) (i : Int) (j : Int) ((maskN p p.f1[i].f0 p.f3[j] / 2 ^ m : Nat) : Int) (m : Int) p.f0 p.f1 p.f2 p.f3 p.f4 p.f5 p.f6 p.f7 p.f8 p.f9 p.f10) r := by
  have hend : ∀ m : Nat, (p.f0.length ≤ m ∨ 16 ≤ m) → Evt (fun k => gatehouselaw08_MeanFaces.j4 k ok (wantL p) (i : Int) (j : Int) ((maskN p p.f1[i].f0 p.f3[j] / 2 ^ m : Nat) : Int) (m : Int) false p.f0 p.f1 p.f2 p.f3 p.f4 p.f5 p.f6 p.f7 p.f8 p.f9 p.f10) r := by
    intro m hm
    refine h.step fun k => ?_
    simp only [gatehouselaw08_MeanFaces.j4]
    rw [if_neg (by decide), mask_div _ _ _ _ hm, if_pos (by simp), w1 (by omega)]
  induction d with
  | zero =>
    intro m h1 hd
    refine (hend m (.inl (by omega))).step fun k => ?_
    simp only [gatehouselaw08_MeanFaces.l3]
    rw [if_neg (by omega)]
  | succ d ih =>
    intro m h1 hd
    have hlt : m < p.f0.length := by omega
    by_cases h16 : m < 16
    · have ht : (⟨p.f1[i].f0, p.f3[j], p.f0[m]⟩ : Tri) ∈ allT p := mem_allT.2 ⟨List.mem_map_of_mem (List.getElem_mem _), List.getElem_mem _, List.getElem_mem _⟩
      have hh := has_f (wantL p) ⟨p.f1[i].f0, p.f3[j], p.f0[m]⟩ hw
      have hnext := ih (m + 1) (by omega) (by omega)
      have hj4 : Evt (fun k => gatehouselaw08_MeanFaces.j4 k ok (wantL p) (i : Int) (j : Int) ((maskN p p.f1[i].f0 p.f3[j] / 2 ^ m : Nat) : Int) (m : Int) true p.f0 p.f1 p.f2 p.f3 p.f4 p.f5 p.f6 p.f7 p.f8 p.f9 p.f10) r := by
        refine Evt.step (Evt.bind (f := fun k t => if (((Int.tmod ((maskN p p.f1[i].f0 p.f3[j] / 2 ^ m : Nat) : Int) 2) == 1) != t) = true then some false else gatehouselaw08_MeanFaces.l3 k ok (wantL p) (i : Int) (j : Int) (wrap64 (Int.tdiv ((maskN p p.f1[i].f0 p.f3[j] / 2 ^ m : Nat) : Int) 2)) ((m + 1 : Nat) : Int) p.f0 p.f1 p.f2 p.f3 p.f4 p.f5 p.f6 p.f7 p.f8 p.f9 p.f10) hh ?_) (g := fun k => gatehouselaw08_MeanFaces.j4 k ok (wantL p) (i : Int) (j : Int) ((maskN p p.f1[i].f0 p.f3[j] / 2 ^ m : Nat) : Int) (m : Int) true p.f0 p.f1 p.f2 p.f3 p.f4 p.f5 p.f6 p.f7 p.f8 p.f9 p.f10) fun k => ?_
        · refine hnext.same fun k => ?_
          have e1 : Int.tmod ((maskN p p.f1[i].f0 p.f3[j] / 2 ^ m : Nat) : Int) 2 = ((maskN p p.f1[i].f0 p.f3[j] / 2 ^ m % 2 : Nat) : Int) := rfl
          have e2 : Int.tdiv ((maskN p p.f1[i].f0 p.f3[j] / 2 ^ m : Nat) : Int) 2 = ((maskN p p.f1[i].f0 p.f3[j] / 2 ^ m / 2 : Nat) : Int) := rfl
          have e3 : maskN p p.f1[i].f0 p.f3[j] / 2 ^ m / 2 = maskN p p.f1[i].f0 p.f3[j] / 2 ^ (m + 1) := by rw [Nat.div_div_eq_div_mul, Nat.pow_succ]
          have hml := mask_lt p p.f1[i].f0 p.f3[j]
          have e4 := Nat.div_le_self (maskN p p.f1[i].f0 p.f3[j]) (2 ^ (m + 1))
          show (if _ then _ else _) = _
          rw [e1, mask_bit p _ _ m hlt h16, want_has p ht, e2, e3, w0 (by omega)]
          simp
        · simp only [gatehouselaw08_MeanFaces.j4]
          rw [if_pos trivial, if_pos (by omega), if_pos (by omega), if_pos (by omega), if_pos (by omega), if_pos (by omega), if_pos (by omega), rdSub hi, rdStr hj, rdStr hlt, w1 (by omega)]
          rfl
      refine hj4.step fun k => ?_
      simp only [gatehouselaw08_MeanFaces.l3]
      rw [if_pos (by omega), decide_eq_true (by omega : (m : Int) < 16)]
    · refine (hend m (.inr (by omega))).step fun k => ?_
      simp only [gatehouselaw08_MeanFaces.l3]
      rw [if_pos (by omega), decide_eq_false (by omega : ¬ (m : Int) < 16)]
include hk in
theorem faces_l2 (ok : Bool) (hw : (wantL p).length ≤ 4611686018427387904) (i : Nat) (hi : i < p.f1.length) (hA : p.f0.length ≤ 16777216) (hO : p.f3.length ≤ 16777216) (hS : p.f1.length ≤ 16777216) (r : Bool) (h : Evt (fun k => gatehouselaw08_MeanFaces.l1 k ok (wantL p) ((i + 1 : Nat) : Int) p.f0 p.f1 p.f2 p.f3 p.f4 p.f5 p.f6 p.f7 p.f8 p.f9 p.f10) r) (d : Nat) :
    ∀ j : Nat, j ≤ p.f3.length → p.f3.length - j = d → Evt (fun k => gatehouselaw08_MeanFaces.l2 k ok (wantL p) (i : Int) (j : Int) p.f0 p.f1 p.f2 p.f3 p.f4 p.f5 p.f6 p.f7 p.f8 p.f9 p.f10) r := by
  induction d with
  | zero =>
    intro j h1 hd
    refine h.step fun k => ?_
    simp only [gatehouselaw08_MeanFaces.l2]
    rw [if_neg (by omega), w1 (by omega)]
  | succ d ih =>
    intro j h1 hd
    have hlt : j < p.f3.length := by omega
    have h3 := faces_l3 p ok hw i j hi hlt hA hO r (ih (j + 1) (by omega) (by omega)) p.f0.length 0 (Nat.zero_le _) (by omega)
    refine h3.step fun k => ?_
    have hm : mean_Mask.f p.f0 p.f1 p.f2 p.f3 p.f4 p.f5 p.f6 p.f7 p.f8 p.f9 p.f10 p.f1[i].f0 p.f3[j] = some (maskN p p.f1[i].f0 p.f3[j] : Int) := if_pos hk
    have hml := mask_lt p p.f1[i].f0 p.f3[j]
    simp only [gatehouselaw08_MeanFaces.l2]
    rw [if_pos (by omega), if_pos (by omega), if_pos (by omega), if_pos (by omega), rdSub hi, rdStr hlt, hm]
    simp only [Option.bind_some]
    rw [w0 (by omega), Nat.pow_zero, Nat.div_one]
    rfl
include hk in
theorem faces_l1 (hR : okR p = true) (hw : (wantL p).length ≤ 4611686018427387904) (hA : p.f0.length ≤ 16777216) (hO : p.f3.length ≤ 16777216) (hS : p.f1.length ≤ 16777216) (d : Nat) :
    ∀ i : Nat, i ≤ p.f1.length → p.f1.length - i = d → Evt (fun k => gatehouselaw08_MeanFaces.l1 k true (wantL p) (i : Int) p.f0 p.f1 p.f2 p.f3 p.f4 p.f5 p.f6 p.f7 p.f8 p.f9 p.f10) true := by
  induction d with
  | zero =>
    intro i h1 hd
    have hrel : mean_Relation.f p.f0 p.f1 p.f2 p.f3 p.f4 p.f5 p.f6 p.f7 p.f8 p.f9 p.f10 = some (relL p) := if_pos hR
    have heq := equal_f (relL_eq p) (by rw [relL_eq]; exact hw)
    refine heq.step fun k => ?_
    simp only [gatehouselaw08_MeanFaces.l1]
    rw [if_neg (by omega), if_pos trivial, hrel]
    simp only [Option.bind_some]
    show (gatehouselaw08_equal.f k (relL p) (wantL p)).bind some = _
    simp
  | succ d ih =>
    intro i h1 hd
    have hlt : i < p.f1.length := by omega
    have h2 := faces_l2 p hk true hw i hlt hA hO hS true (ih (i + 1) (by omega) (by omega)) p.f3.length 0 (Nat.zero_le _) (by omega)
    refine h2.step fun k => ?_
    simp only [gatehouselaw08_MeanFaces.l1]
    rw [if_pos (by omega)]
    rfl
include hk in
theorem faces_l0 (l : List Tri) (hl : l.length ≤ 16777216) (r : Bool) (d : Nat) :
    ∀ (i : Nat) (x4 : List Tri), i ≤ l.length → l.length - i = d → x4.length ≤ i → Evt (fun k => gatehouselaw08_MeanFaces.l1 k true (x4 ++ (l.drop i).filter (allowsB p)) 0 p.f0 p.f1 p.f2 p.f3 p.f4 p.f5 p.f6 p.f7 p.f8 p.f9 p.f10) r → Evt (fun k => gatehouselaw08_MeanFaces.l0 k true x4 l (i : Int) p.f0 p.f1 p.f2 p.f3 p.f4 p.f5 p.f6 p.f7 p.f8 p.f9 p.f10) r := by
  induction d with
  | zero =>
    intro i x4 h1 hd hx h
    rw [List.drop_of_length_le (by omega), List.filter_nil, List.append_nil] at h
    refine h.step fun k => ?_
    simp only [gatehouselaw08_MeanFaces.l0]
    rw [if_neg (by omega)]
  | succ d ih =>
    intro i x4 h1 hd hx h
    have hlt : i < l.length := by omega
    have hdr : l.drop i = l[i] :: l.drop (i + 1) := List.drop_eq_getElem_cons hlt
    have ha : mean_Allows.f p.f0 p.f1 p.f2 p.f3 p.f4 p.f5 p.f6 p.f7 p.f8 p.f9 p.f10 l[i].f0 l[i].f1 l[i].f2 = some (allowsB p l[i]) := if_pos hk
    rw [hdr, List.filter_cons] at h
    cases hq : allowsB p l[i] with
    | true =>
      rw [hq, if_pos rfl] at h
      refine (ih (i + 1) (x4 ++ [l[i]]) (by omega) (by omega) (by simp; omega) (by rw [List.append_assoc]; exact h)).step fun k => ?_
      simp only [gatehouselaw08_MeanFaces.l0]
      rw [if_pos (by omega), if_pos (by omega), rdTri hlt, ha, hq]
      simp only [Option.bind_some]
      rw [if_pos trivial, if_pos (by omega), w1 (by omega)]
    | false =>
      rw [hq, if_neg (by decide)] at h
      refine (ih (i + 1) x4 (by omega) (by omega) (by omega) h).step fun k => ?_
      simp only [gatehouselaw08_MeanFaces.l0]
      rw [if_pos (by omega), if_pos (by omega), rdTri hlt, ha, hq]
      simp only [Option.bind_some]
      rw [if_neg (by simp), w1 (by omega)]
include hk in
theorem faces_f (hS : p.f1.length ≤ 1048576) (hO : p.f3.length ≤ 1048576) (hA : p.f0.length ≤ 1048576) : Evt (fun k => gatehouselaw08_MeanFaces.f k p.f0 p.f1 p.f2 p.f3 p.f4 p.f5 p.f6 p.f7 p.f8 p.f9 p.f10) true := by
  obtain ⟨b, hb, hc⟩ := large_f p hS hO hA
  cases b with
  | true =>
    refine Evt.now fun k => ?_
    unfold gatehouselaw08_MeanFaces.f
    show (gatehouselaw08_large.f p.f0 p.f1 p.f2 p.f3 p.f4 p.f5 p.f6 p.f7 p.f8 p.f9 p.f10).bind _ = _
    rw [hb]
    rfl
  | false =>
    have hcap := hc rfl
    have hR : okR p = true := okR_iff.2 ⟨okB_iff.1 hk, by omega⟩
    have hall := all_f p (by omega) (by omega) (by omega) (by omega)
    have hlen : (allT p).length ≤ 65536 := by
      have h1 := ads_len (triL (namesOf p) p.f3 p.f0) []
      have h2 : (triL (namesOf p) p.f3 p.f0).length ≤ p.f1.length * (p.f3.length * p.f0.length) := by
        rw [← triL_eq]
        refine flat_len _ _ _ fun s _ => flat_len _ _ _ fun o _ => ?_
        rw [List.length_map]
        exact Nat.le_refl _
      have h3 : (allT p).length = (ads [] (triL (namesOf p) p.f3 p.f0)).length := rfl
      rw [h3]
      simp at h1
      omega
    have hw : (wantL p).length ≤ 4611686018427387904 := Nat.le_trans (List.length_filter_le _ _) (by omega)
    have h1 := faces_l1 p hk hR hw (by omega) (by omega) (by omega) p.f1.length 0 (Nat.zero_le _) (by omega)
    have h0 := faces_l0 p hk (allT p) (by omega) true (allT p).length 0 [] (Nat.zero_le _) (by omega) (Nat.zero_le _) (by rw [List.drop_zero, List.nil_append]; exact h1)
    refine (Evt.bind (f := fun k l => gatehouselaw08_MeanFaces.l0 k true [] l 0 p.f0 p.f1 p.f2 p.f3 p.f4 p.f5 p.f6 p.f7 p.f8 p.f9 p.f10) hall h0).same fun k => ?_
    unfold gatehouselaw08_MeanFaces.f
    show (gatehouselaw08_large.f p.f0 p.f1 p.f2 p.f3 p.f4 p.f5 p.f6 p.f7 p.f8 p.f9 p.f10).bind _ = _
    rw [hb]
    rfl
end Go.Proofs.Ytnkdcekddhmjnaa.M
