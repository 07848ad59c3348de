import Derived.Test.YteefneemmdfncaaDoorPC
import Derived.Test.YteefneemmdfncaaDoorWa
/- Of a shortest way: in whose turn a name was put there. Conditions: each theorem's own. -/
namespace Go.Proofs.YteefneemmdfncaaDoor.M
open Go.RowKit Go.Proofs.YteefneemmdfncaaDoorW.Raw Go.Proofs.YteefneemmdfncaaDoorW.PrintWords Go.Proofs.YteefneemmdfncaaDoor.F
set_option linter.unusedVariables false
abbrev Rea := List (ByteArray × ByteArray)
def addR (frm x : ByteArray) (R : Rea) (y : ByteArray) : Rea := if (R.any fun e => y == e.1) || y == frm then R else R ++ [(y, x)]
def stepR (N : ByteArray → List ByteArray) (frm : ByteArray) (R : Rea) (x : ByteArray) : Rea := (N x).foldl (addR frm x) R
def reas (N : ByteArray → List ByteArray) (frm : ByteArray) (pre : List ByteArray) : Rea := pre.foldl (stepR N frm) []
theorem reas_snoc (N : ByteArray → List ByteArray) (frm : ByteArray) (pre : List ByteArray) (x : ByteArray) : reas N frm (pre ++ [x]) = stepR N frm (reas N frm pre) x := List.foldl_append
theorem keyR {R : Rea} {y : ByteArray} : (R.any fun e => y == e.1) = true ↔ y ∈ R.map (·.1) := by
  rw [List.any_eq_true, List.mem_map]
  exact ⟨fun ⟨e, he, h⟩ => ⟨e, he, ((bb _ _).1 h).symm⟩, fun ⟨e, he, h⟩ => ⟨e, he, (bb _ _).2 h.symm⟩⟩
theorem addR_mem {frm x : ByteArray} {R : Rea} {y : ByteArray} {e : ByteArray × ByteArray} : e ∈ addR frm x R y ↔ e ∈ R ∨ (e = (y, x) ∧ y ∉ R.map (·.1) ∧ y ≠ frm) := by
  unfold addR
  by_cases h1 : y ∈ R.map (·.1)
  · rw [keyR.2 h1]
    simp [h1]
  · have h1' : (R.any fun e => y == e.1) = false := by
      cases hq : (R.any fun e => y == e.1) with
      | false => rfl
      | true => exact absurd (keyR.1 hq) h1
    rw [h1', Bool.false_or]
    by_cases h2 : y = frm
    · rw [if_pos ((bb _ _).2 h2)]
      simp [h2]
    · rw [if_neg (fun e => h2 ((bb _ _).1 e)), List.mem_append, List.mem_singleton]
      simp [h1, h2]
theorem addR_key {frm x : ByteArray} {R : Rea} {y k : ByteArray} : k ∈ (addR frm x R y).map (·.1) ↔ k ∈ R.map (·.1) ∨ (k = y ∧ y ≠ frm) := by
  constructor
  · intro h
    obtain ⟨e, he, rfl⟩ := List.mem_map.1 h
    rcases addR_mem.1 he with he | ⟨rfl, h1, h2⟩
    · exact .inl (List.mem_map_of_mem he)
    · exact .inr ⟨rfl, h2⟩
  · rintro (h | ⟨rfl, h2⟩)
    · obtain ⟨e, he, rfl⟩ := List.mem_map.1 h
      exact List.mem_map_of_mem (addR_mem.2 (.inl he))
    · by_cases h1 : k ∈ R.map (·.1)
      · obtain ⟨e, he, e1⟩ := List.mem_map.1 h1
        rw [← e1]
        exact List.mem_map_of_mem (addR_mem.2 (.inl he))
      · exact List.mem_map.2 ⟨(k, x), addR_mem.2 (.inr ⟨rfl, h1, h2⟩), rfl⟩
theorem foldR_mem {frm x : ByteArray} (ts : List ByteArray) : ∀ (R : Rea) (e : ByteArray × ByteArray), e ∈ ts.foldl (addR frm x) R ↔ e ∈ R ∨ (e.2 = x ∧ e.1 ∈ ts ∧ e.1 ∉ R.map (·.1) ∧ e.1 ≠ frm) := by
  induction ts with
  | nil => intro R e; simp
  | cons t ts ih =>
    intro R e
    show e ∈ ts.foldl (addR frm x) (addR frm x R t) ↔ _
    rw [ih, addR_mem, addR_key, List.mem_cons]
    constructor
    · rintro ((h | ⟨rfl, h1, h2⟩) | ⟨h1, h2, h3, h4⟩)
      · exact .inl h
      · exact .inr ⟨rfl, .inl rfl, h1, h2⟩
      · exact .inr ⟨h1, .inr h2, fun h => h3 (.inl h), h4⟩
    · rintro (h | ⟨h1, h2, h3, h4⟩)
      · exact .inl (.inl h)
      · by_cases he : e.1 = t
        · exact .inl (.inr ⟨Prod.ext he h1, he ▸ h3, he ▸ h4⟩)
        · refine .inr ⟨h1, h2.resolve_left he, fun h => ?_, h4⟩
          rcases h with h | ⟨h, _⟩
          · exact h3 h
          · exact he h
theorem stepR_mem {N : ByteArray → List ByteArray} {frm x : ByteArray} {R : Rea} {e : ByteArray × ByteArray} : e ∈ stepR N frm R x ↔ e ∈ R ∨ (e.2 = x ∧ e.1 ∈ N x ∧ e.1 ∉ R.map (·.1) ∧ e.1 ≠ frm) := foldR_mem _ _ _
theorem stepR_key {N : ByteArray → List ByteArray} {frm x : ByteArray} {R : Rea} {k : ByteArray} : k ∈ (stepR N frm R x).map (·.1) ↔ k ∈ R.map (·.1) ∨ (k ∈ N x ∧ k ≠ frm) := by
  constructor
  · intro h
    obtain ⟨e, he, rfl⟩ := List.mem_map.1 h
    rcases stepR_mem.1 he with he | ⟨_, h1, _, h2⟩
    · exact .inl (List.mem_map_of_mem he)
    · exact .inr ⟨h1, h2⟩
  · rintro (h | ⟨h1, h2⟩)
    · obtain ⟨e, he, rfl⟩ := List.mem_map.1 h
      exact List.mem_map_of_mem (stepR_mem.2 (.inl he))
    · by_cases h3 : k ∈ R.map (·.1)
      · obtain ⟨e, he, e1⟩ := List.mem_map.1 h3
        rw [← e1]
        exact List.mem_map_of_mem (stepR_mem.2 (.inl he))
      · exact List.mem_map.2 ⟨(k, x), stepR_mem.2 (.inr ⟨rfl, h1, h3, h2⟩), rfl⟩
theorem reas_key {N : ByteArray → List ByteArray} {frm k : ByteArray} (pre : List ByteArray) : k ∈ (reas N frm pre).map (·.1) ↔ k ≠ frm ∧ ∃ x ∈ pre, k ∈ N x := by
  refine snoc_ind (p := fun pre => k ∈ (reas N frm pre).map (·.1) ↔ k ≠ frm ∧ ∃ x ∈ pre, k ∈ N x) (by simp [reas]) (fun pre x ih => ?_) pre
  rw [reas_snoc, stepR_key, ih]
  constructor
  · rintro (⟨h1, y, hy, h2⟩ | ⟨h1, h2⟩)
    · exact ⟨h1, y, List.mem_append_left _ hy, h2⟩
    · exact ⟨h2, x, List.mem_append_right _ (List.mem_singleton.2 rfl), h1⟩
  · rintro ⟨h1, y, hy, h2⟩
    rcases List.mem_append.1 hy with hy | hy
    · exact .inl ⟨h1, y, hy, h2⟩
    · rw [List.mem_singleton] at hy
      subst hy
      exact .inr ⟨h2, h1⟩
/-- A reason: the name in whose turn another one came, which had not come in an earlier turn. -/
theorem reas_mem {N : ByteArray → List ByteArray} {frm : ByteArray} {e : ByteArray × ByteArray} (pre : List ByteArray) : e ∈ reas N frm pre → ∃ i, ∃ h : i < pre.length, pre[i] = e.2 ∧ e.1 ∈ N e.2 ∧ e.1 ≠ frm ∧ ∀ x ∈ pre.take i, e.1 ∉ N x := by
  refine snoc_ind (p := fun pre => e ∈ reas N frm pre → ∃ i, ∃ h : i < pre.length, pre[i] = e.2 ∧ e.1 ∈ N e.2 ∧ e.1 ≠ frm ∧ ∀ x ∈ pre.take i, e.1 ∉ N x) (fun h => by simp [reas] at h) (fun pre x ih h => ?_) pre
  rw [reas_snoc, stepR_mem] at h
  rcases h with h | ⟨h1, h2, h3, h4⟩
  · obtain ⟨i, hi, e1, e2, e3, e4⟩ := ih h
    refine ⟨i, by rw [List.length_append]; omega, by rw [List.getElem_append_left hi]; exact e1, e2, e3, fun y hy => ?_⟩
    rw [List.take_append_of_le_length (by omega)] at hy
    exact e4 y hy
  · refine ⟨pre.length, by simp, by simp [h1], h1 ▸ h2, h4, fun y hy hn => ?_⟩
    rw [List.take_append_of_le_length (Nat.le_refl _), List.take_length] at hy
    exact h3 ((reas_key pre).2 ⟨h4, y, hy, hn⟩)
/-- From a name back, reason by reason. -/
def backP (R : Rea) (frm : ByteArray) : Nat → ByteArray → Option (List ByteArray)
  | 0, _ => none
  | k + 1, y => if y = frm then some [] else match R.find? fun e => y == e.1 with
    | none => none
    | some e => (backP R frm k e.2).map (y :: ·)
def reaL (ps : List Pair) (frm : ByteArray) : Rea := reas (tos ps) frm (upL ps frm)
def pathL (ps : List Pair) (frm tt : ByteArray) : List ByteArray := match backP (reaL ps frm) frm (ps.length + 2) tt with
  | none => []
  | some b => frm :: b.reverse
/-- What came in the i-th turn stands behind the i-th. -/
theorem later {ps : List Pair} {frm x y : ByteArray} {i : Nat} (h : i < (upL ps frm).length) (hx : (upL ps frm)[i] = x) (hy : y ∈ tos ps x) (hn : y ≠ frm) (hf : ∀ z ∈ (upL ps frm).take i, y ∉ tos ps z) : ∃ j, ∃ hj : j < (upL ps frm).length, i < j ∧ (upL ps frm)[j] = y := by
  have hyL : y ∈ upL ps frm := upL_closed (x := x) (hx ▸ List.getElem_mem h) (tos_mem.1 hy)
  obtain ⟨j, hj, e⟩ := List.getElem_of_mem hyL
  refine ⟨j, hj, ?_, e⟩
  have hl := upL_len ps frm
  obtain ⟨d, hd⟩ : ∃ d, ps.length + 1 = i + d := ⟨ps.length + 1 - i, by omega⟩
  obtain ⟨zs, hz⟩ := rounds_pre (tos ps) [frm] i d
  have hL : upL ps frm = rounds (tos ps) [frm] i ++ zs := by unfold upL; rw [hd, hz]
  have hil : i < (rounds (tos ps) [frm] i).length := by
    by_cases hq : i < (rounds (tos ps) [frm] i).length
    · exact hq
    · have hst := rounds_stay (N := tos ps) (L0 := [frm]) (k := i) (by omega) d
      have : upL ps frm = rounds (tos ps) [frm] i := by unfold upL; rw [hd, hst]
      rw [this] at h
      omega
  have hin : ∀ k, k ≤ i → ∀ z ∈ rounds (tos ps) [frm] k, z = frm ∨ ∃ u ∈ (upL ps frm).take i, z ∈ tos ps u := by
    intro k
    induction k with
    | zero => intro _ z hz; exact .inl (List.mem_singleton.1 hz)
    | succ k ih =>
      intro hk z hz
      unfold rounds at hz
      split at hz
      · rename_i u hu
        rw [addAll_mem] at hz
        rcases hz with hz | hz
        · exact ih (by omega) z hz
        · refine .inr ⟨u, ?_, hz⟩
          obtain ⟨d', hd'⟩ : ∃ d', ps.length + 1 = k + d' := ⟨ps.length + 1 - k, by omega⟩
          obtain ⟨zs', hz'⟩ := rounds_pre (tos ps) [frm] k d'
          have hL' : upL ps frm = rounds (tos ps) [frm] k ++ zs' := by unfold upL; rw [hd', hz']
          have hul := (List.getElem?_eq_some_iff.1 hu).1
          have : (upL ps frm)[k]? = some u := by rw [hL', List.getElem?_append_left hul]; exact hu
          rw [List.mem_take_iff_getElem]
          obtain ⟨a, b⟩ := List.getElem?_eq_some_iff.1 this
          exact ⟨k, by omega, b⟩
      · exact ih (by omega) z hz
  by_cases hji : j < (rounds (tos ps) [frm] i).length
  · exfalso
    have hm : y ∈ rounds (tos ps) [frm] i := by
      have : (rounds (tos ps) [frm] i)[j]? = some y := by
        have h1 : (upL ps frm)[j]? = some y := by rw [List.getElem?_eq_getElem hj, e]
        rw [hL, List.getElem?_append_left hji] at h1
        exact h1
      exact List.mem_of_getElem? this
    rcases hin i (Nat.le_refl _) y hm with h1 | ⟨u, hu, h1⟩
    · exact hn h1
    · exact hf u hu h1
  · omega
theorem nodup_inj {l : List ByteArray} (h : l.Nodup) {i j : Nat} (hi : i < l.length) (hj : j < l.length) (e : l[i] = l[j]) : i = j := by
  have hp := List.pairwise_iff_getElem.1 h
  rcases Nat.lt_trichotomy i j with h1 | h1 | h1
  · exact absurd e (hp i j hi hj h1)
  · exact h1
  · exact absurd e.symm (hp j i hj hi h1)
theorem way_cases {ps : List Pair} {a y : ByteArray} (h : Way ps a y) : y = a ∨ ∃ x, Way ps a x ∧ ∃ p ∈ ps, p.f0 = x ∧ p.f1 = y := by
  cases h with
  | here => exact .inl rfl
  | on h1 hp => exact .inr ⟨_, h1, hp⟩
theorem back_some {ps : List Pair} {frm : ByteArray} (k : Nat) : ∀ (j : Nat) (hj : j < (upL ps frm).length), j < k → ∃ b, backP (reaL ps frm) frm k (upL ps frm)[j] = some b := by
  induction k with
  | zero => intro j _ h; omega
  | succ k ih =>
    intro j hj hjk
    unfold backP
    by_cases h0 : (upL ps frm)[j] = frm
    · rw [if_pos h0]; exact ⟨[], rfl⟩
    rw [if_neg h0]
    have hw := mem_upL.1 (List.getElem_mem hj)
    have hkey : (upL ps frm)[j] ∈ (reaL ps frm).map (·.1) := by
      refine (reas_key _).2 ⟨h0, ?_⟩
      rcases way_cases hw with h1 | ⟨x, h1, hp⟩
      · exact absurd h1 h0
      · exact ⟨x, mem_upL.2 h1, tos_mem.2 hp⟩
    cases hq : (reaL ps frm).find? fun e => (upL ps frm)[j] == e.1 with
    | none =>
      rw [List.find?_eq_none] at hq
      obtain ⟨e, he, h1⟩ := List.mem_map.1 hkey
      exact absurd ((bb _ _).2 h1.symm) (hq e he)
    | some e =>
      have he := List.mem_of_find?_eq_some hq
      have h1 : (upL ps frm)[j] = e.1 := by
        have h1' := List.find?_some hq
        exact (bb _ _).1 h1'
      obtain ⟨i, hi, e1, e2, e3, e4⟩ := reas_mem _ he
      obtain ⟨j', hj', hlt, e5⟩ := later hi e1 e2 e3 e4
      have hjj : j = j' := by
        have hnd : (upL ps frm).Nodup := rounds_nodup (tos ps) [frm] (by simp) _
        have hee : (upL ps frm)[j]'hj = (upL ps frm)[j']'hj' := by rw [e5, h1]
        exact nodup_inj hnd hj hj' hee
      obtain ⟨b, hb⟩ := ih i hi (by omega)
      rw [e1] at hb
      refine ⟨(upL ps frm)[j] :: b, ?_⟩
      show (backP (reaL ps frm) frm k e.2).map _ = _
      rw [hb]
      rfl
end Go.Proofs.YteefneemmdfncaaDoor.M
