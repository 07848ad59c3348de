/- The given contract of mean.Relation, as the print asks for it. Conditions: none. -/
import Derived.Test.YtnkdcekddhmjnaaSC
namespace Go.Proofs.Ytnkdcekddhmjnaa.M
open Go.RowKit Go.Proofs.YtnkdcekddhmjnaaW.Raw Go.Proofs.YtnkdcekddhmjnaaW.PrintWords Go.Proofs.Ytnkdcekddhmjnaa.F
set_option linter.unusedVariables false
/-- A row whose elements lead to nothing is a row of the call's own. -/
theorem N_R {α : Type} {d : Kd α} {e : Nat} {w : World} {base : Nat} {ok : Nat → Prop} {v : Value} {xs : List α} (hd : ∀ w base ok x c, d.K w x c → d.M w base ok x c) (h : Kd.N d e w base ok v xs) : d.R e w base ok v xs := by
  obtain ⟨h0, rows, hl, ⟨_, inner, ho, hr⟩, hf⟩ := h
  refine ⟨h0, inner, by rw [← hl]; exact ho, ⟨by rw [hr.1, hl]; rfl, fun j x hx => ?_⟩⟩
  have hjl : j < rows.length := by rw [hl]; exact (List.getElem?_eq_some_iff.1 hx).1
  have h1 := hr.2 j rows[j] (List.getElem?_eq_getElem hjl)
  have h2 := hf j x rows[j] hx (List.getElem?_eq_getElem hjl)
  have h3 := h2 w (fun _ _ _ => rfl)
  have h4 : (inner.drop (j * d.sz)).take d.sz = rows[j] := h1.1
  show d.M _ _ _ _ ((inner.drop (j * d.sz)).take d.sz)
  rw [h4]
  exact hd _ _ _ _ _ h3
theorem flat_Tri (w : World) (base : Nat) (ok : Nat → Prop) (x : Tri) (c : List Value) (h : k36.K w x c) : k36.M w base ok x c := h
end Go.Proofs.Ytnkdcekddhmjnaa.M
namespace Go.Proofs.Ytnkdcekddhmjnaa.F
open Go.RowKit Go.Proofs.YtnkdcekddhmjnaaW.PrintWords
set_option linter.unusedVariables false
def mean_Relation.f (l0_0 : List ByteArray) (l0_1 : List S57) (l0_2 : List ByteArray) (l0_3 : List ByteArray) (l0_4 : List ByteArray) (l0_5 : List S86) (l0_6 : List S86) (l0_7 : List S86) (l0_8 : List S86) (l0_9 : List S27) (l0_10 : List S36) : Option (List S36) := if M.okR (⟨l0_0, l0_1, l0_2, l0_3, l0_4, l0_5, l0_6, l0_7, l0_8, l0_9, l0_10⟩ : M.Pol) = true then some (M.relL (⟨l0_0, l0_1, l0_2, l0_3, l0_4, l0_5, l0_6, l0_7, l0_8, l0_9, l0_10⟩ : M.Pol)) else none
theorem mean_Relation.calls (A0_0 : Option Addr) (c0_0 : Nat) (l0_0 : List ByteArray) (A0_1 : Option Addr) (c0_1 : Nat) (l0_1 : List S57) (A0_2 : Option Addr) (c0_2 : Nat) (l0_2 : List ByteArray) (A0_3 : Option Addr) (c0_3 : Nat) (l0_3 : List ByteArray) (A0_4 : Option Addr) (c0_4 : Nat) (l0_4 : List ByteArray) (A0_5 : Option Addr) (c0_5 : Nat) (l0_5 : List S86) (A0_6 : Option Addr) (c0_6 : Nat) (l0_6 : List S86) (A0_7 : Option Addr) (c0_7 : Nat) (l0_7 : List S86) (A0_8 : Option Addr) (c0_8 : Nat) (l0_8 : List S86) (A0_9 : Option Addr) (c0_9 : Nat) (l0_9 : List S27) (A0_10 : Option Addr) (c0_10 : Nat) (l0_10 : List S36) (r : List S36) (w : World) (hr0_0 : Kd.C Kd.string w A0_0 l0_0.length l0_0) (hc0_0 : l0_0.length ≤ c0_0) (hr0_1 : Kd.C k57 w A0_1 l0_1.length l0_1) (hc0_1 : l0_1.length ≤ c0_1) (hr0_2 : Kd.C Kd.string w A0_2 l0_2.length l0_2) (hc0_2 : l0_2.length ≤ c0_2) (hr0_3 : Kd.C Kd.string w A0_3 l0_3.length l0_3) (hc0_3 : l0_3.length ≤ c0_3) (hr0_4 : Kd.C Kd.string w A0_4 l0_4.length l0_4) (hc0_4 : l0_4.length ≤ c0_4) (hr0_5 : Kd.C k86 w A0_5 l0_5.length l0_5) (hc0_5 : l0_5.length ≤ c0_5) (hr0_6 : Kd.C k86 w A0_6 l0_6.length l0_6) (hc0_6 : l0_6.length ≤ c0_6) (hr0_7 : Kd.C k86 w A0_7 l0_7.length l0_7) (hc0_7 : l0_7.length ≤ c0_7) (hr0_8 : Kd.C k86 w A0_8 l0_8.length l0_8) (hc0_8 : l0_8.length ≤ c0_8) (hr0_9 : Kd.C k27 w A0_9 l0_9.length l0_9) (hc0_9 : l0_9.length ≤ c0_9) (hr0_10 : Kd.C k36 w A0_10 l0_10.length l0_10) (hc0_10 : l0_10.length ≤ c0_10) (h : mean_Relation.f l0_0 l0_1 l0_2 l0_3 l0_4 l0_5 l0_6 l0_7 l0_8 l0_9 l0_10 = some r) :
    Calls Go.Proofs.Try.prog 28 #[.agg #[.slice A0_0 l0_0.length c0_0, .slice A0_1 l0_1.length c0_1, .slice A0_2 l0_2.length c0_2, .slice A0_3 l0_3.length c0_3, .slice A0_4 l0_4.length c0_4, .slice A0_5 l0_5.length c0_5, .slice A0_6 l0_6.length c0_6, .slice A0_7 l0_7.length c0_7, .slice A0_8 l0_8.length c0_8, .slice A0_9 l0_9.length c0_9, .slice A0_10 l0_10.length c0_10]] w fun e w' => ∃ v0_ : Value, e = .returned v0_ ∧ Kd.R k36 36 w' w.heap.size (fun _ => True) v0_ r ∧ Below w.heap.size w w' := by
  unfold mean_Relation.f at h
  by_cases hk : M.okR (⟨l0_0, l0_1, l0_2, l0_3, l0_4, l0_5, l0_6, l0_7, l0_8, l0_9, l0_10⟩ : M.Pol) = true
  · rw [if_pos hk] at h
    cases h
    exact (M.relation_calls _ _ w (k34_mk w (⟨l0_0, l0_1, l0_2, l0_3, l0_4, l0_5, l0_6, l0_7, l0_8, l0_9, l0_10⟩ : M.Pol) hc0_0 hr0_0 hc0_1 hr0_1 hc0_2 hr0_2 hc0_3 hr0_3 hc0_4 hr0_4 hc0_5 hr0_5 hc0_6 hr0_6 hc0_7 hr0_7 hc0_8 hr0_8 hc0_9 hr0_9 hc0_10 hr0_10) (M.okR_iff.1 hk).1 (M.okR_iff.1 hk).2).mono fun e w' ⟨v, h1, h2, h3⟩ => ⟨v, h1, M.N_R M.flat_Tri h2, h3⟩
  · rw [if_neg hk] at h
    cases h
end Go.Proofs.Ytnkdcekddhmjnaa.F
