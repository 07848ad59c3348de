import Derived.Test.YteefneemmdfncaaDoorRows
import Derived.Test.YteefneemmdfncaaDoorWFloat
import Derived.ChangeArms
import Derived.SizedLaws
/- How an argument's reading (the row's) becomes the kinds that the printed walks are stated in. 'Opens P T d g b': whatever is read at type T as a datum of bounded weights is told by kind d, meets g, and its bulk b is at most the datum's. No condition. -/
namespace Go.Proofs.YteefneemmdfncaaDoorW.Open
open Go.RowKit Go.Proofs.YteefneemmdfncaaDoorW.PrintWords Go.Proofs.YteefneemmdfncaaDoor
open Go.Proofs.YteefneemmdfncaaDoor.Rows (uptoBulk uptoBulkAll)

structure Opens (P : Program) (T : TypeId) {α : Type} (d : Kd α) (g : α → Prop) (b : α → Nat) : Prop where
  out : ∀ {H : Type} {enc : TypeId × Value → H} {w : World} {sp : Nat → Bool} {held : Bool} {fuel : Nat} {cs : List Value} {x : DataW H × List MemPlace},
    DataW.trod enc P w 0 sp held fuel T cs = some x → (∀ n ∈ x.1.weights P T, n ≤ reachBytes) → ∃ a, d.K w a cs ∧ g a ∧ b a ≤ uptoBulk x.1

theorem opens_int {P : Program} {T : TypeId} {k : IntKind} (ht : P.underlying T = some (.int k)) : Opens P T (Kd.int k) (fun n => (Lit.int k n).wf = true) (fun _ => 1) := ⟨fun h _ => by
  obtain ⟨n, rfl, rfl, hw⟩ := DataW.trod_int ht h
  exact ⟨n, rfl, hw, by simp [uptoBulk]⟩⟩
theorem opens_bool {P : Program} {T : TypeId} (ht : P.underlying T = some .bool) : Opens P T Kd.bool (fun _ => True) (fun _ => 1) := ⟨fun h _ => by
  obtain ⟨n, rfl, rfl⟩ := DataW.trod_bool ht h
  exact ⟨n, rfl, trivial, by simp [uptoBulk]⟩⟩
theorem opens_string {P : Program} {T : TypeId} (ht : P.underlying T = some .string) : Opens P T Kd.string (fun s => s.size ≤ 140737488351232) (fun s => s.size + 1) := ⟨fun h hw => by
  obtain ⟨s, rfl, rfl, hs⟩ := DataW.trod_string ht h
  refine ⟨s, rfl, ?_, ?_⟩
  · have h1 : s.data.toList.length ≤ reachBytes := hw _ (by simp [DataW.weights])
    have h2 : reachBytes = 140737488351232 := rfl
    have h3 : s.data.toList.length = s.size := Array.length_toList
    omega
  · have h3 : s.data.toList.length = s.size := Array.length_toList
    simp only [uptoBulk]
    omega⟩
theorem opens_float {P : Program} {T : TypeId} (ht : P.underlying T = some (.float .f64)) : Opens P T Kd.float (fun _ => True) (fun _ => 1) := ⟨fun {_ _ _ _ _ fuel cs x} h _ => by
  cases fuel with
  | zero => simp [DataW.trod] at h
  | succ m =>
    unfold DataW.trod at h
    rw [ht] at h
    split at h <;> try (simp_all; done)
    rename_i k k' b heq
    split at h
    · rename_i hk
      obtain ⟨hk, _⟩ := hk
      injection heq with heq
      injection heq with heq
      subst hk heq
      cases h
      exact ⟨b, rfl, trivial, by simp [uptoBulk]⟩
    · cases h⟩

theorem bulkAll_get {H : Type} : ∀ (l : List (DataW H)) (f : Nat → Nat) (n : Nat), l.length = n → (∀ i d, l[i]? = some d → f i ≤ uptoBulk d) → ((List.range n).map f).sum ≤ uptoBulkAll l := by
  intro l
  induction l with
  | nil => intro f n hn _; simp at hn; subst hn; simp [uptoBulkAll]
  | cons d l ih =>
    intro f n hn h
    obtain ⟨m, rfl⟩ : ∃ m, n = m + 1 := ⟨n - 1, by simp at hn; omega⟩
    rw [List.range_succ_eq_map, List.map_cons, List.sum_cons, List.map_map]
    have h0 := h 0 d rfl
    have h1 := ih (f ∘ Nat.succ) m (by simpa using hn) (fun i d hi => h (i + 1) d (by simpa using hi))
    simp only [uptoBulkAll]
    omega

theorem weightsAll_get {H : Type} {P : Program} {e : TypeId} : ∀ (l : List (DataW H)) (i : Nat) (d : DataW H), l[i]? = some d → ∀ n ∈ d.weights P e, n ∈ DataW.weightsAll P e l := by
  intro l
  induction l with
  | nil => intro i d h; simp at h
  | cons x l ih =>
    intro i d h n hn
    cases i with
    | zero => simp at h; subst h; simp [DataW.weightsAll, hn]
    | succ i => simp at h; simp only [DataW.weightsAll, List.mem_append]; exact .inr (ih i d h n hn)

/-- A slice: its elements told one by one. -/
theorem opens_slice {P : Program} {T E : TypeId} {α : Type} {d : Kd α} {g : α → Prop} {b : α → Nat} (by_ : Nat) (ht : P.underlying T = some (.slice E)) (hc : P.cellsOf E = d.sz) (hb : P.bytesOf E = by_) (hd : Opens P E d g b) :
    Opens P T (Kd.slice E d) (fun xs => xs.length * by_ ≤ 140737488351232 ∧ xs.length ≤ 9223372036854775807 ∧ ∀ x ∈ xs, g x) (fun xs => (xs.map b).sum + 1) := ⟨fun {H enc w sp held fuel cs x} h hw => by
  rcases DataW.trod_slice ht h with ⟨rfl, rfl⟩ | ⟨a, len, cap, elems, rest, m, rfl, rfl, hx, _, hl, hm, hel, hge, hsp⟩
  · exact ⟨[], ⟨none, 0, rfl, Nat.le_refl _, rfl, by simp, fun h0 => absurd h0 (by simp)⟩, ⟨by simp, by simp, by simp⟩, by simp [uptoBulk]⟩
  · subst hx
    have hW : ∀ (i : Nat) (y : DataW H × List MemPlace), elems[i]? = some y → ∀ n ∈ y.1.weights P E, n ≤ reachBytes := fun i y hy n hn => hw n (by
      simp only [DataW.weights, ht, List.mem_cons, List.mem_append]
      exact .inr (.inl (weightsAll_get _ i y.1 (by simp [hy]) n hn)))
    have key : ∀ i, i < len → ∃ y, elems[i]? = some y ∧ ∃ cs, w.cells? 0 (a.add (i * P.cellsOf E)) (P.cellsOf E) = some cs ∧ DataW.trod enc P w 0 sp held m E cs = some y := by
      intro i hi
      have h1 := hge i hi
      rw [List.getElem?_eq_getElem (show i < elems.length by omega)] at h1
      obtain ⟨cs, h2, h3⟩ := Option.bind_eq_some_iff.1 h1
      exact ⟨_, List.getElem?_eq_getElem (by omega), cs, h2, h3⟩
    have key2 : ∀ i, i < len → ∃ z : α, ∃ cs, w.cells? 0 (a.add (i * P.cellsOf E)) (P.cellsOf E) = some cs ∧ d.K w z cs ∧ g z ∧ ∃ y, elems[i]? = some y ∧ b z ≤ uptoBulk y.1 := by
      intro i hi
      obtain ⟨y, hy, cs, h2, h3⟩ := key i hi
      obtain ⟨z, hz1, hz2, hz3⟩ := hd.out h3 (hW i y hy)
      exact ⟨z, cs, h2, hz1, hz2, y, hy, hz3⟩
    have fst : ∃ zs : List α, zs.length = len ∧ ∀ i z, zs[i]? = some z → ∃ cs, w.cells? 0 (a.add (i * P.cellsOf E)) (P.cellsOf E) = some cs ∧ d.K w z cs ∧ g z ∧ ∃ y, elems[i]? = some y ∧ b z ≤ uptoBulk y.1 := by
      clear hge hel hw hW key hm h hl hsp
      induction len with
      | zero => exact ⟨[], rfl, fun i z hz => by simp at hz⟩
      | succ len ih =>
        obtain ⟨zs, hz, hzs⟩ := ih (fun i hi => key2 i (by omega))
        obtain ⟨z, hk⟩ := key2 len (by omega)
        refine ⟨zs ++ [z], by simp [hz], fun i y hy => ?_⟩
        rcases Nat.lt_or_ge i zs.length with hi | hi
        · rw [List.getElem?_append_left hi] at hy
          exact hzs i y hy
        · rw [List.getElem?_append_right hi] at hy
          obtain rfl : i = len := by
            have : i - zs.length < 1 := by
              have := (List.getElem?_eq_some_iff.1 hy).1
              simpa using this
            omega
          rw [hz, Nat.sub_self] at hy
          simp at hy
          subst hy
          exact hk
    obtain ⟨zs, hzl, hzs⟩ := fst
    refine ⟨zs, ⟨some a, cap, by rw [hzl], by omega, ?_⟩, ⟨?_, ?_, ?_⟩, ?_⟩
    · refine ⟨rfl, by simp only [maxLen] at hm; omega, fun _ => ⟨a, rfl, fun j p hj => ?_⟩⟩
      obtain ⟨cs, h1, h2, _⟩ := hzs j p hj
      rw [hc] at h1
      obtain ⟨_, h4, h5⟩ := World.cells?_some h1
      refine ⟨cs, h4, h2, fun i u hu => ?_⟩
      have hi : i < d.sz := by have := (List.getElem?_eq_some_iff.1 hu).1; omega
      have := h5 i hi
      rw [hu] at this
      rw [← this]
      congr 1
      unfold Addr.add
      by_cases h6 : j * d.sz = 0 <;> by_cases h7 : i = 0 <;> simp [h6, h7, Nat.add_assoc]
    · have := hw ((elems.length + rest.length) * P.bytesOf E) (by simp [DataW.weights, ht])
      rw [hb] at this
      simp only [reachBytes] at this
      refine Nat.le_trans ?_ this
      exact Nat.mul_le_mul_right _ (by omega)
    · simp only [maxLen] at hm; omega
    · intro x hx
      obtain ⟨i, hi⟩ := List.mem_iff_getElem?.1 hx
      obtain ⟨_, _, _, h3, _⟩ := hzs i x hi
      exact h3
    · have h1 := bulkAll_get (elems.map (·.1)) (fun i => ((zs[i]?).map b).getD 0) len (by simpa using hel) (fun i dd hi => by
        cases hz : zs[i]? with
        | none => simp
        | some z =>
          obtain ⟨_, _, _, _, y, hy, hb2⟩ := hzs i z hz
          simp [hy] at hi
          subst hi
          simpa using hb2)
      have h2 : (zs.map b) = (List.range len).map (fun i => ((zs[i]?).map b).getD 0) := by
        apply List.ext_getElem
        · simp [hzl]
        · intro i h3 h4
          simp at h3
          simp [List.getElem?_eq_getElem h3]
      simp only [uptoBulk]
      rw [h2]
      omega⟩

/-- A struct's fields from the j-th on, which lie from cell 'off' on. -/
structure OpensF (P : Program) (fs : List Field) (off : Nat) {α : Type} (d : Kd α) (g : α → Prop) (b : α → Nat) : Prop where
  out : ∀ {H : Type} {enc : TypeId × Value → H} {w : World} {sp : Nat → Bool} {held : Bool} {fuel : Nat} {cs : List Value} {xs : List (DataW H × List MemPlace)},
    fs.mapM (fun f => DataW.trod enc P w 0 sp held fuel f.type ((cs.drop f.offset).take (P.cellsOf f.type))) = some xs → cs.length = off + d.sz →
    (∀ n ∈ DataW.weightsEach P (fs.map (·.type)) (xs.map (·.1)), n ≤ reachBytes) → ∃ a, d.K w a (cs.drop off) ∧ g a ∧ b a ≤ uptoBulkAll (xs.map (·.1))

theorem opensF_one {P : Program} {f : Field} {off : Nat} {α : Type} {d : Kd α} {g : α → Prop} {b : α → Nat} (ho : f.offset = off) (hc : P.cellsOf f.type = d.sz) (h : Opens P f.type d g b) : OpensF P [f] off d g b := ⟨fun {_ _ _ _ _ _ cs xs} hx hl hw => by
  simp only [List.mapM_cons, List.mapM_nil] at hx
  obtain ⟨y, hy, hx⟩ := Option.bind_eq_some_iff.1 hx
  simp at hx
  subst hx
  have e : (cs.drop f.offset).take (P.cellsOf f.type) = cs.drop off := by
    rw [ho, hc]; exact List.take_of_length_le (by simp; omega)
  rw [e] at hy
  obtain ⟨a, h1, h2, h3⟩ := h.out hy (fun n hn => hw n (by simp [DataW.weightsEach, hn]))
  exact ⟨a, h1, h2, by simp [uptoBulkAll]; exact h3⟩⟩
theorem opensF_cons {P : Program} {f : Field} {fs : List Field} {off : Nat} {α β : Type} {d : Kd α} {e : Kd β} {g : α → Prop} {g' : β → Prop} {b : α → Nat} {b' : β → Nat} (ho : f.offset = off) (hc : P.cellsOf f.type = d.sz) (h : Opens P f.type d g b) (hr : OpensF P fs (off + d.sz) e g' b') :
    OpensF P (f :: fs) off (Kd.pair d e) (fun x => g x.1 ∧ g' x.2) (fun x => b x.1 + b' x.2) := ⟨fun {_ _ _ _ _ _ cs xs} hx hl hw => by
  rw [List.mapM_cons] at hx
  obtain ⟨y, hy, hx⟩ := Option.bind_eq_some_iff.1 hx
  obtain ⟨ys, hys, hx⟩ := Option.bind_eq_some_iff.1 hx
  simp at hx
  subst hx
  have hl' : cs.length = off + (d.sz + e.sz) := hl
  obtain ⟨a, h1, h2, h3⟩ := h.out hy (fun n hn => hw n (by simp [DataW.weightsEach, hn]))
  obtain ⟨c, h4, h5, h6⟩ := hr.out hys (by omega) (fun n hn => hw n (by simp [DataW.weightsEach]; right; simpa using hn))
  refine ⟨(a, c), ⟨_, _, ?_, h1, h4⟩, ⟨h2, h5⟩, ?_⟩
  · rw [ho, hc, ← List.drop_drop]
    exact (List.take_append_drop _ _).symm
  · simp only [List.map_cons, uptoBulkAll]
    omega⟩
theorem opens_struct {P : Program} {T : TypeId} {fs : Array Field} {α β : Type} {d : Kd α} {g : α → Prop} {b : α → Nat} (f : β → α) (mk : α → β) (hmk : ∀ a, f (mk a) = a) (ht : P.underlying T = some (.struct fs)) (hc : P.cellsOf T = d.sz) (h : OpensF P fs.toList 0 d g b) :
    Opens P T (Kd.iso d f) (fun x => g (f x)) (fun x => b (f x) + 1) := ⟨fun {H enc w sp held fuel cs x} hx hw => by
  obtain ⟨m, xs, rfl, hxs, hl, hm⟩ : ∃ m xs, fuel = m + 1 ∧ x = (.agg (xs.map (·.1)), xs.flatMap (·.2)) ∧ cs.length = P.cellsOf T ∧ fs.toList.mapM (fun f => DataW.trod enc P w 0 sp held m f.type ((cs.drop f.offset).take (P.cellsOf f.type))) = some xs := by
    cases fuel with
    | zero => simp [DataW.trod] at hx
    | succ m =>
      unfold DataW.trod at hx
      rw [ht] at hx
      simp only at hx
      split at hx
      · rename_i hl
        obtain ⟨xs, h1, h2⟩ := Option.map_eq_some_iff.1 hx
        exact ⟨m, xs, rfl, h2.symm, hl, h1⟩
      · cases hx
  subst hxs
  obtain ⟨a, h1, h2, h3⟩ := h.out hm (by omega) (fun n hn => hw n (by simp only [DataW.weights, ht]; exact hn))
  refine ⟨mk a, ?_, by rw [hmk]; exact h2, by rw [hmk]; simp only [uptoBulk]; omega⟩
  show d.K w (f (mk a)) cs
  rw [hmk]
  exact h1⟩
end Go.Proofs.YteefneemmdfncaaDoorW.Open
