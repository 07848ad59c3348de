import Derived.Test.YteefneemmdfncaaDb
import Derived.Test.YteefneemmdfncaaAl
/- The changes, plainly: which they are, and that each stands once. No condition. -/
namespace Go.Proofs.Yteefneemmdfncaa.M
open Go.RowKit Go.Proofs.YteefneemmdfncaaW.Raw Go.Proofs.YteefneemmdfncaaW.PrintWords Go.Proofs.Yteefneemmdfncaa.F
set_option linter.unusedVariables false
theorem goneL_len (l m : List Tri) (b c : Bool) : (goneL l m b).length = (goneL l m c).length := by unfold goneL; rw [List.length_map, List.length_map]
theorem mem_goneL {l m : List Tri} {b : Bool} {x : Tri × Bool} : x ∈ goneL l m b ↔ x.2 = b ∧ x.1 ∈ l ∧ x.1 ∉ m := by
  unfold goneL
  rw [List.mem_map]
  constructor
  · rintro ⟨t, ht, rfl⟩
    rw [List.mem_filter] at ht
    refine ⟨rfl, ht.1, fun h => ?_⟩
    rw [← inC_iff] at h
    rw [h] at ht
    exact absurd ht.2 (by decide)
  · rintro ⟨rfl, h1, h2⟩
    refine ⟨x.1, List.mem_filter.2 ⟨h1, ?_⟩, rfl⟩
    cases hq : inC m x.1 with
    | false => rfl
    | true => exact absurd ((inC_iff _ _).1 hq) h2
theorem mem_chL {p q : Pol} {c : Chg} : c ∈ chL p q ↔ (c.f1 = false ∧ c.f0 ∈ relL p ∧ c.f0 ∉ relL q) ∨ (c.f1 = true ∧ c.f0 ∈ relL q ∧ c.f0 ∉ relL p) := by
  unfold chL changeL
  rw [List.mem_map]
  constructor
  · rintro ⟨x, hx, rfl⟩
    rcases List.mem_append.1 hx with h | h
    · exact .inl (mem_goneL.1 h)
    · exact .inr (mem_goneL.1 h)
  · rintro (h | h)
    · exact ⟨(c.f0, c.f1), List.mem_append_left _ (mem_goneL.2 h), rfl⟩
    · exact ⟨(c.f0, c.f1), List.mem_append_right _ (mem_goneL.2 h), rfl⟩
theorem map_nodup {α β : Type} (f : α → β) (hf : ∀ a b, f a = f b → a = b) : ∀ {l : List α}, l.Nodup → (l.map f).Nodup
  | [], _ => List.nodup_nil
  | a :: l, h => by
    rw [List.map_cons, List.nodup_cons]
    rw [List.nodup_cons] at h
    refine ⟨fun hm => ?_, map_nodup f hf h.2⟩
    obtain ⟨b, hb, e⟩ := List.mem_map.1 hm
    rw [hf _ _ e] at hb
    exact h.1 hb
theorem goneL_nodup {l m : List Tri} {b : Bool} (h : l.Nodup) : (goneL l m b).Nodup := by
  unfold goneL
  exact map_nodup _ (fun a c e => by injection e) (h.filter _)
theorem chL_nodup (p q : Pol) : (chL p q).Nodup := by
  unfold chL changeL
  refine map_nodup _ (fun a c e => by
    cases a
    cases c
    injection e with e1 e2
    cases e1
    cases e2
    rfl) ?_
  rw [List.nodup_append]
  refine ⟨goneL_nodup (relL_nodup p), goneL_nodup (relL_nodup q), fun a ha b hb e => ?_⟩
  subst e
  have h1 := (mem_goneL.1 ha).1
  have h2 := (mem_goneL.1 hb).1
  rw [h1] at h2
  cases h2
theorem told_none {l : List Chg} {c : Chg} (h : c ∉ l) : toldN l c = 0 := by
  unfold toldN
  rw [List.countP_eq_zero]
  intro x hx he
  rw [eqCh_iff.1 he] at hx
  exact h hx
theorem told_one : ∀ {l : List Chg} {c : Chg}, l.Nodup → c ∈ l → toldN l c = 1
  | x :: l, c, h, hm => by
    rw [List.nodup_cons] at h
    have e : toldN (x :: l) c = toldN l c + if eqCh x c = true then 1 else 0 := by unfold toldN; rw [List.countP_cons]
    rw [e]
    rcases List.mem_cons.1 hm with rfl | hm
    · rw [told_none h.1, if_pos (eqCh_iff.2 rfl)]
    · have hne : ¬ eqCh x c = true := fun he => by
        rw [eqCh_iff.1 he] at h
        exact h.1 hm
      rw [told_one h.2 hm, if_neg hne]
theorem chL_back_len (p q : Pol) : (chL q p).length = (chL p q).length := by
  unfold chL changeL
  rw [List.length_map, List.length_map, List.length_append, List.length_append, goneL_len (relL q) (relL p) false true, goneL_len (relL p) (relL q) true false]
  omega
theorem sameB_len (p q : Pol) : sameB p q = decide ((chL p q).length = 0) := by
  unfold sameB chL
  rw [List.length_map]
  cases changeL (relL p) (relL q) with
  | nil => rfl
  | cons a l => rfl
theorem sameB_back (p q : Pol) : sameB q p = sameB p q := by rw [sameB_len, sameB_len, chL_back_len]
def flipC (c : Chg) : Chg := ⟨c.f0, !c.f1⟩
theorem told_back (p q : Pol) {c : Chg} (h : c ∈ chL p q) : toldN (chL q p) (flipC c) = 1 := by
  refine told_one (chL_nodup q p) (mem_chL.2 ?_)
  rcases mem_chL.1 h with ⟨h1, h2, h3⟩ | ⟨h1, h2, h3⟩
  · exact .inr ⟨by show (!c.f1) = true; rw [h1]; rfl, h2, h3⟩
  · exact .inl ⟨by show (!c.f1) = false; rw [h1]; rfl, h2, h3⟩
end Go.Proofs.Yteefneemmdfncaa.M
