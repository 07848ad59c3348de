/- DiskExact: a list of pairs. Conditions: each theorem's own. -/
import Derived.Test.YtcoodlncjnekoaaEj
import Derived.Test.YtcoodlncjnekoaaEh
namespace Go.Proofs.Ytcoodlncjnekoaa.E
open Go.RowKit Go.Proofs.YtcoodlncjnekoaaW.Raw Go.Proofs.YtcoodlncjnekoaaW.PrintWords Go.Proofs.Ytcoodlncjnekoaa.D
set_option linter.unusedVariables false
set_option linter.unusedSimpArgs false
def pcel : List (Nat × Nat) → List Value
  | [] => []
  | p :: l => .pointer (some ⟨p.1, 0, none⟩) :: .pointer (some ⟨p.2, 0, none⟩) :: pcel l
theorem pcel_app (a b : List (Nat × Nat)) : pcel (a ++ b) = pcel a ++ pcel b := by
  induction a with
  | nil => rfl
  | cons p l ih => simp [pcel, ih]
theorem pcel_len (l : List (Nat × Nat)) : (pcel l).length = 2 * l.length := by
  induction l with
  | nil => rfl
  | cons p l ih => simp [pcel, ih]; omega
theorem pcel_get (l : List (Nat × Nat)) (i : Nat) (p : Nat × Nat) (h : l[i]? = some p) : (pcel l)[2 * i]? = some (.pointer (some ⟨p.1, 0, none⟩)) ∧ (pcel l)[2 * i + 1]? = some (.pointer (some ⟨p.2, 0, none⟩)) := by
  induction l generalizing i with
  | nil => simp at h
  | cons q l ih => cases i with
    | zero => simp at h; subst h; exact ⟨rfl, rfl⟩
    | succ i =>
      have := ih i (by simpa using h)
      exact ⟨by rw [show 2 * (i + 1) = 2 * i + 2 from by omega]; simpa [pcel] using this.1, by rw [show 2 * (i + 1) + 1 = 2 * i + 1 + 2 from by omega]; simpa [pcel] using this.2⟩
theorem prow_cell {w : World} {base n c : Nat} {A : Option Addr} {es : List (Nat × Nat)} (h : w.ownsRow base 42 2 (.slice A n c) n (pcel es)) (i g gr : Nat) (hp : es[i]? = some (g, gr)) : ∃ b, A = some ⟨b, 0, none⟩ ∧ w.cell? ⟨b, i * 2, none⟩ = some (.pointer (some ⟨g, 0, none⟩)) ∧ w.cell? ⟨b, i * 2 + 1, none⟩ = some (.pointer (some ⟨gr, 0, none⟩)) := by
  have hi := (List.getElem?_eq_some_iff.1 hp).1
  have hl : es.length = n := by have := h.1; rw [pcel_len] at this; omega
  rcases h.2 with ⟨he, h1⟩ | ⟨g', cap', cur, he, hb, hh, _⟩
  · injection he with _ h2
    omega
  · injection he with h1 h2 h3
    subst h1
    refine ⟨g', rfl, ?_⟩
    have hg := pcel_get es i (g, gr) hp
    have c0 := h.cells (g := g') rfl (2 * i) _ hg.1
    have c1 := h.cells (g := g') rfl (2 * i + 1) _ hg.2
    rw [add_plain] at c0 c1
    rw [show i * 2 = 2 * i from Nat.mul_comm _ _]
    exact ⟨c0, c1⟩
/-- A list of pairs, each with blocks of its own. -/
def Ps (B : Nat) (W : World) (v : Value) (es : List (Nat × Nat)) : Prop :=
  W.ownsRow B 42 2 v es.length (pcel es) ∧ ∃ F : Nat → Nat → Prop, (∀ i e, es[i]? = some e → Pr B (F i) W e.1 e.2) ∧ (∀ i j k, i < es.length → j < es.length → i ≠ j → F i k → F j k → False) ∧ (∀ i k, i < es.length → F i k → v.ownBlock ≠ some k)
theorem Pr.bound {B : Nat} {f : Nat → Prop} {W : World} {g gr : Nat} (h : Pr B f W g gr) : ∀ k, f k → k < W.heap.size := by
  obtain ⟨_, _, _, _, _, _, _, _, _, _, _, _, _, h9⟩ := h
  exact h9
theorem Ps.below {B : Nat} {W W1 : World} {v : Value} {es : List (Nat × Nat)} (h : Ps B W v es) (hb : Below W.heap.size W W1) : Ps B W1 v es := by
  obtain ⟨h1, F, h2, h3, h4⟩ := h
  exact ⟨own_move h1 (fun k hk => hb.block k (own_lt h1 k hk)), F, fun i e he => (h2 i e he).move (fun k _ hk => hb.block k hk) hb.size, h3, h4⟩
theorem Ps.nil (B : Nat) (W : World) : Ps B W (.slice none 0 0) [] := ⟨own_nil _ _ _ _, fun _ _ => False, fun i e he => by simp at he, fun i j k hi => by simp at hi, fun i k hi => by simp at hi⟩
/-- A call on one of them. -/
theorem Ps.at_ {B : Nat} {W : World} {v : Value} {es : List (Nat × Nat)} (h : Ps B W v es) (i g gr : Nat) (hi : es[i]? = some (g, gr)) : ∃ f, Pr B f W g gr ∧ ∀ W', OneQ B f W g gr W' → Ps B W' v es ∧ Below B W W' := by
  obtain ⟨h1, F, h2, h3, h4⟩ := h
  have hl := (List.getElem?_eq_some_iff.1 hi).1
  refine ⟨F i, h2 i _ hi, fun W' hq => ?_⟩
  obtain ⟨f', k1, k2, k3, k4⟩ := hq
  refine ⟨⟨own_move h1 (fun k hk => k3.2 k (own_lt h1 k hk) (fun hf => h4 i k hl hf hk)), fun j => if j = i then f' else F j, fun j e he => ?_, fun a b k ha hb hab hfa hfb => ?_, fun j k hj hf hv => ?_⟩, k4⟩
  · by_cases e1 : j = i
    · subst e1
      rw [hi] at he
      injection he with he
      subst he
      simpa using k1
    · have := h2 j e he
      have hjl := (List.getElem?_eq_some_iff.1 he).1
      simp only [if_neg e1]
      exact this.move (fun k hk hlt => k3.2 k hlt (fun hf => h3 j i k hjl hl e1 hk hf)) k3.1
  · dsimp only at hfa hfb
    by_cases ea : a = i
    · rw [if_pos ea] at hfa
      rw [if_neg (by omega)] at hfb
      rcases k2 k hfa with hf | hn
      · exact h3 a b k ha hb hab (by rw [ea]; exact hf) hfb
      · obtain ⟨e, he⟩ : ∃ e, es[b]? = some e := ⟨_, List.getElem?_eq_getElem hb⟩
        have := (h2 b e he).bound k hfb
        omega
    · rw [if_neg ea] at hfa
      by_cases eb : b = i
      · rw [if_pos eb] at hfb
        rcases k2 k hfb with hf | hn
        · exact h3 a b k ha hb hab hfa (by rw [eb]; exact hf)
        · obtain ⟨e, he⟩ : ∃ e, es[a]? = some e := ⟨_, List.getElem?_eq_getElem ha⟩
          have := (h2 a e he).bound k hfa
          omega
      · rw [if_neg eb] at hfb
        exact h3 a b k ha hb hab hfa hfb
  · dsimp only at hf
    by_cases ej : j = i
    · rw [if_pos ej] at hf
      rcases k2 k hf with hf | hn
      · exact h4 i k hl hf hv
      · have := own_lt h1 k hv
        omega
    · rw [if_neg ej] at hf
      exact h4 j k hj hf hv
/-- One more. -/
theorem Ps.app {B : Nat} {W0 W3 W4 : World} {v v' : Value} {es : List (Nat × Nat)} {f : Nat → Prop} {g gr : Nat} (h : Ps B W0 v es) (hB : B ≤ W0.heap.size) (hb : Below W0.heap.size W0 W3) (hp : Pr W0.heap.size f W3 g gr) (hf : ∀ k, f k → W0.heap.size ≤ k)
    (hown : W4.ownsRow B 42 2 v' (es.length + 1) (pcel es ++ [.pointer (some ⟨g, 0, none⟩), .pointer (some ⟨gr, 0, none⟩)])) (hg : W3.grownBy W4 v.ownBlock) (hat : v'.ownBlock = v.ownBlock ∨ ∃ b, v'.ownBlock = some b ∧ W3.heap.size ≤ b) : Ps B W4 v' (es ++ [(g, gr)]) := by
  obtain ⟨h1, F, h2, h3, h4⟩ := h
  have hsz := hb.size
  have bnd : ∀ i k, i < es.length → F i k → k < W0.heap.size := fun i k hi hk => by
    obtain ⟨e, he⟩ : ∃ e, es[i]? = some e := ⟨_, List.getElem?_eq_getElem hi⟩
    exact (h2 i e he).bound k hk
  refine ⟨by rw [pcel_app, List.length_append, List.length_singleton]; exact hown, fun j => if j < es.length then F j else f, fun j e he => ?_, fun a b k ha hb' hab hfa hfb => ?_, fun j k hj hfk hv => ?_⟩
  · by_cases ej : j < es.length
    · rw [List.getElem?_append_left ej] at he
      simp only [if_pos ej]
      exact (h2 j e he).move (fun k hk hlt => (hg.block k (by omega) (fun e2 => h4 j k ej hk e2.symm)).trans (hb.block k hlt)) (by have := hg.size; omega)
    · have hj2 := (List.getElem?_eq_some_iff.1 he).1
      simp at hj2
      obtain rfl : j = es.length := by omega
      rw [List.getElem?_append_right (Nat.le_refl _), Nat.sub_self] at he
      simp at he
      subst he
      simp only [if_neg ej]
      exact (hp.move (fun k hk hlt => hg.block k hlt (fun e2 => by have := own_lt h1 k e2.symm; have := hf k hk; omega)) hg.size).lower hB
  · dsimp only at hfa hfb
    simp at ha hb'
    by_cases ea : a < es.length
    · rw [if_pos ea] at hfa
      by_cases eb : b < es.length
      · rw [if_pos eb] at hfb
        exact h3 a b k ea eb hab hfa hfb
      · rw [if_neg eb] at hfb
        have := bnd a k ea hfa
        have := hf k hfb
        omega
    · rw [if_neg ea] at hfa
      rw [if_pos (by omega)] at hfb
      have := bnd b k (by omega) hfb
      have := hf k hfa
      omega
  · dsimp only at hfk
    by_cases ej : j < es.length
    · rw [if_pos ej] at hfk
      rcases hat with e | ⟨b, e, hle⟩
      · exact h4 j k ej hfk (by rw [← e]; exact hv)
      · rw [e] at hv; injection hv with hv; have := bnd j k ej hfk; omega
    · rw [if_neg ej] at hfk
      rcases hat with e | ⟨b, e, hle⟩
      · have := own_lt h1 k (by rw [← e]; exact hv)
        have := hf k hfk
        omega
      · rw [e] at hv; injection hv with hv
        have := hp.bound k hfk
        omega
end Go.Proofs.Ytcoodlncjnekoaa.E
