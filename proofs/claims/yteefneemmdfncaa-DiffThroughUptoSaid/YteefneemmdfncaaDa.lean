import Derived.Test.YteefneemmdfncaaSC
/- What a policy's relation is, plainly; 'from some rounds on'; sizes. No condition. -/
namespace Go.Proofs.Yteefneemmdfncaa.M
open Go.RowKit Go.Proofs.YteefneemmdfncaaW.Raw Go.Proofs.YteefneemmdfncaaW.PrintWords Go.Proofs.Yteefneemmdfncaa.F
set_option linter.unusedVariables false
open Classical in
noncomputable def ad {α : Type} (xs : List α) (x : α) : List α := if x ∈ xs then xs else xs ++ [x]
noncomputable def dd {α : Type} (xs : List α) : List α := xs.foldl ad []
noncomputable def ads {α : Type} (D xs : List α) : List α := xs.foldl ad D
theorem ad_mem {α : Type} {xs : List α} {x : α} (h : x ∈ xs) : ad xs x = xs := if_pos h
theorem ad_new {α : Type} {xs : List α} {x : α} (h : x ∉ xs) : ad xs x = xs ++ [x] := if_neg h
theorem mem_ad {α : Type} {xs : List α} {x y : α} : y ∈ ad xs x ↔ y ∈ xs ∨ y = x := by
  by_cases h : x ∈ xs
  · rw [ad_mem h]
    exact ⟨.inl, fun h' => by rcases h' with h' | rfl <;> assumption⟩
  · rw [ad_new h]; simp
theorem mem_ads {α : Type} {y : α} (xs : List α) : ∀ D : List α, y ∈ ads D xs ↔ y ∈ D ∨ y ∈ xs := by
  induction xs with
  | nil => intro D; simp [ads]
  | cons x xs ih =>
    intro D
    show y ∈ ads (ad D x) xs ↔ _
    rw [ih, mem_ad, List.mem_cons]
    constructor
    · rintro ((h | h) | h)
      · exact .inl h
      · exact .inr (.inl h)
      · exact .inr (.inr h)
    · rintro (h | h | h)
      · exact .inl (.inl h)
      · exact .inl (.inr h)
      · exact .inr h
theorem mem_dd {α : Type} {y : α} {xs : List α} : y ∈ dd xs ↔ y ∈ xs := by
  show y ∈ ads [] xs ↔ _
  rw [mem_ads]; simp
theorem ads_append {α : Type} (D xs ys : List α) : ads D (xs ++ ys) = ads (ads D xs) ys := List.foldl_append
theorem dd_snoc {α : Type} (xs : List α) (x : α) : dd (xs ++ [x]) = ad (dd xs) x := List.foldl_append
theorem ads_all {α : Type} (xs : List α) : ∀ D : List α, (∀ x ∈ xs, x ∈ D) → ads D xs = D := by
  induction xs with
  | nil => intro D _; rfl
  | cons x xs ih =>
    intro D h
    show ads (ad D x) xs = D
    rw [ad_mem (h x List.mem_cons_self)]
    exact ih D fun y hy => h y (List.mem_cons_of_mem _ hy)
theorem snoc_ind {α : Type} {p : List α → Prop} (h0 : p []) (h1 : ∀ xs x, p xs → p (xs ++ [x])) (xs : List α) : p xs := by
  have : ∀ ys : List α, p ys.reverse := by
    intro ys
    induction ys with
    | nil => exact h0
    | cons y ys ih => rw [List.reverse_cons]; exact h1 _ _ ih
  have h := this xs.reverse
  rwa [List.reverse_reverse] at h
theorem ads_new {α β : Type} (f : α → β) (hf : ∀ a b, f a = f b → a = b) (D : List β) (hD : ∀ a, f a ∉ D) (ys : List α) : ads D (ys.map f) = D ++ (dd ys).map f := by
  refine snoc_ind (p := fun ys => ads D (ys.map f) = D ++ (dd ys).map f) (by simp [ads, dd]) (fun ys y ih => ?_) ys
  rw [List.map_append, ads_append, ih, dd_snoc]
  show ad _ (f y) = _
  by_cases h : y ∈ dd ys
  · rw [ad_mem h, ad_mem (List.mem_append_right _ (List.mem_map_of_mem h))]
  · rw [ad_new h, ad_new, List.map_append, List.append_assoc]
    · rfl
    · intro h'
      rcases List.mem_append.1 h' with h' | h'
      · exact hD _ h'
      · obtain ⟨z, hz, e⟩ := List.mem_map.1 h'
        rw [hf _ _ e] at hz
        exact h hz
/-- The product of two lists, each thing once, is the product of the two, each once. -/
theorem dd_prod {α β γ : Type} (g : α → β → γ) (hg : ∀ a b a' b', g a b = g a' b' → a = a' ∧ b = b') (xs : List α) (ys : List β) : dd (xs.flatMap fun x => ys.map (g x)) = (dd xs).flatMap fun x => (dd ys).map (g x) := by
  refine snoc_ind (p := fun xs => dd (xs.flatMap fun x => ys.map (g x)) = (dd xs).flatMap fun x => (dd ys).map (g x)) rfl (fun xs x ih => ?_) xs
  rw [List.flatMap_append, dd_snoc]
  rw [show ∀ A B : List γ, dd (A ++ B) = ads (dd A) B from fun A B => ads_append [] A B, ih]
  simp only [List.flatMap_cons, List.flatMap_nil, List.append_nil]
  by_cases h : x ∈ dd xs
  · rw [ad_mem h]
    refine ads_all _ _ fun c hc => ?_
    obtain ⟨y, hy, rfl⟩ := List.mem_map.1 hc
    exact List.mem_flatMap.2 ⟨x, h, List.mem_map_of_mem (mem_dd.2 hy)⟩
  · rw [ad_new h, ads_new (g x) (fun a b e => (hg _ _ _ _ e).2)]
    · simp [List.flatMap_append]
    · intro b hb
      obtain ⟨x', hx', hc⟩ := List.mem_flatMap.1 hb
      obtain ⟨y, _, e⟩ := List.mem_map.1 hc
      rw [(hg _ _ _ _ e).1] at hx'
      exact h hx'
theorem add1_ad (xs : List ByteArray) (x : ByteArray) : add1 xs x = ad xs x := by
  by_cases h : x ∈ xs
  · rw [add1_mem h, ad_mem h]
  · rw [add1_new h, ad_new h]
theorem addAll_ads (D ys : List ByteArray) : addAll D ys = ads D ys := by
  unfold addAll ads
  congr 1
  exact funext fun a => funext fun b => add1_ad a b
theorem addAll_dd (ys : List ByteArray) : addAll [] ys = dd ys := addAll_ads [] ys
/-- All triples of names, in order. -/
def triL (ss os xs : List ByteArray) : List Tri := ss.flatMap fun s => (os.flatMap fun o => xs.map fun a => (o, a)).map fun q => ⟨s, q.1, q.2⟩
theorem dd_triL (ss os xs : List ByteArray) : dd (triL ss os xs) = triL (dd ss) (dd os) (dd xs) := by
  unfold triL
  rw [dd_prod (fun s (q : ByteArray × ByteArray) => (⟨s, q.1, q.2⟩ : Tri)) (fun a b a' b' h => by
    injection h with h1 h2 h3
    exact ⟨h1, Prod.ext h2 h3⟩)]
  rw [dd_prod (fun (o a : ByteArray) => (o, a)) (fun a b a' b' h => by
    injection h with h1 h2
    exact ⟨h1, h2⟩)]
def namesOf (p : Pol) : List ByteArray := p.f1.map (·.f0)
noncomputable def allT (p : Pol) : List Tri := dd (triL (namesOf p) p.f3 p.f0)
theorem allowsB_in {p : Pol} {s o a : ByteArray} (hs : s ∈ namesOf p) (ho : o ∈ p.f3) (ha : a ∈ p.f0) : allowsB p ⟨s, o, a⟩ = allowB (aboutL p ((trustOf p.f1 s).getD 0) (upS p s) (upO p o)) p.f10 ⟨s, o, a⟩ := by
  obtain ⟨t, ht⟩ := trust_of_mem (l := p.f1) (x := s) (by
    obtain ⟨x, hx, e⟩ := List.mem_map.1 hs
    exact ⟨x, hx, e⟩)
  simp [allowsB, ht, memB_iff.2 ho, memB_iff.2 ha]
theorem filter_flat {α β : Type} (f : α → List β) (q : β → Bool) (l : List α) : (l.flatMap f).filter q = l.flatMap fun x => (f x).filter q := by
  induction l with
  | nil => rfl
  | cons x l ih => rw [List.flatMap_cons, List.filter_append, ih, List.flatMap_cons]
theorem flat_congr {α β : Type} {f g : α → List β} {l : List α} (h : ∀ x ∈ l, f x = g x) : l.flatMap f = l.flatMap g := by
  induction l with
  | nil => rfl
  | cons x l ih =>
    rw [List.flatMap_cons, List.flatMap_cons, h x List.mem_cons_self, ih fun y hy => h y (List.mem_cons_of_mem _ hy)]
/-- The relation: of all triples of names, each once, those that are allowed. -/
theorem relL_eq (p : Pol) : relL p = (allT p).filter (allowsB p) := by
  unfold allT
  rw [dd_triL]
  unfold relL whosL triL nmsS
  rw [addAll_dd, filter_flat, List.flatMap_map]
  refine flat_congr fun s hs => ?_
  have hs' : s ∈ namesOf p := mem_dd.1 hs
  unfold rowO whatsL
  rw [addAll_dd, List.filter_map, List.flatMap_map, filter_flat, List.map_flatMap]
  refine flat_congr fun o ho => ?_
  have ho' : o ∈ p.f3 := mem_dd.1 ho
  unfold rowA actsL
  rw [addAll_dd, List.filter_map, List.map_map]
  show List.map _ _ = List.map _ _
  have : ∀ a ∈ dd p.f0, allowB (aboutL p (mkS p s).t (mkS p s).us (mkO p o).us) p.f10 ⟨(mkS p s).n, (mkO p o).n, a⟩ = allowsB p ⟨s, o, a⟩ := fun a ha => (allowsB_in hs' ho' (mem_dd.1 ha)).symm
  rw [List.filter_congr this]
  rfl
theorem mem_triL {ss os xs : List ByteArray} {t : Tri} : t ∈ triL ss os xs ↔ t.f0 ∈ ss ∧ t.f1 ∈ os ∧ t.f2 ∈ xs := by
  unfold triL
  simp only [List.mem_flatMap, List.mem_map]
  constructor
  · rintro ⟨s, hs, q, ⟨o, ho, a, ha, rfl⟩, rfl⟩
    exact ⟨hs, ho, ha⟩
  · rintro ⟨h1, h2, h3⟩
    exact ⟨t.f0, h1, (t.f1, t.f2), ⟨t.f1, h2, t.f2, h3, rfl⟩, rfl⟩
theorem mem_allT {p : Pol} {t : Tri} : t ∈ allT p ↔ t.f0 ∈ namesOf p ∧ t.f1 ∈ p.f3 ∧ t.f2 ∈ p.f0 := by unfold allT; rw [mem_dd, mem_triL]
theorem allowsB_mem {p : Pol} {t : Tri} (h : allowsB p t = true) : t ∈ allT p := by
  rw [mem_allT]
  unfold allowsB at h
  cases hq : trustOf p.f1 t.f0 with
  | none => rw [hq] at h; cases h
  | some tr =>
    rw [hq] at h
    simp only [Bool.and_eq_true] at h
    refine ⟨?_, memB_iff.1 h.1.1, memB_iff.1 h.1.2⟩
    unfold trustOf at hq
    obtain ⟨s, hs, _⟩ := Option.map_eq_some_iff.1 hq
    have h1 := List.mem_of_find?_eq_some hs
    have h2 := List.find?_some hs
    rw [(bb _ _).1 h2]
    exact List.mem_map_of_mem h1
abbrev Chg := S53
/-- From some rounds on. -/
def Evt {α : Type} (g : Nat → Option α) (r : α) : Prop := ∃ k0, ∀ k, k0 ≤ k → g k = some r
theorem Evt.now {α : Type} {g : Nat → Option α} {r : α} (h : ∀ k, g (k + 1) = some r) : Evt g r := ⟨1, fun k hk => by obtain ⟨j, rfl⟩ : ∃ j, k = j + 1 := ⟨k - 1, by omega⟩; exact h j⟩
theorem Evt.step {α : Type} {g h : Nat → Option α} {r : α} (hh : Evt h r) (e : ∀ k, g (k + 1) = h k) : Evt g r := by
  obtain ⟨k0, hk⟩ := hh
  refine ⟨k0 + 1, fun k hl => ?_⟩
  obtain ⟨j, rfl⟩ : ∃ j, k = j + 1 := ⟨k - 1, by omega⟩
  rw [e]; exact hk j (by omega)
theorem Evt.same {α : Type} {g h : Nat → Option α} {r : α} (hh : Evt h r) (e : ∀ k, g k = h k) : Evt g r := by
  obtain ⟨k0, hk⟩ := hh
  exact ⟨k0, fun k hl => by rw [e]; exact hk k hl⟩
theorem Evt.bind {α β : Type} {g : Nat → Option α} {a : α} {f : Nat → α → Option β} {r : β} (h1 : Evt g a) (h2 : Evt (fun k => f k a) r) : Evt (fun k => (g k).bind fun x => f k x) r := by
  obtain ⟨k1, h1⟩ := h1
  obtain ⟨k2, h2⟩ := h2
  refine ⟨max k1 k2, fun k hk => ?_⟩
  show (g k).bind _ = _
  rw [h1 k (by omega)]
  exact h2 k (by omega)
theorem tb (a b : ByteArray) : (a.toList == b.toList) = (b == a) := by
  rw [Bool.eq_iff_iff, beq_iff_eq, toList_iff, bb]
  exact eq_comm
def hasB (l : List Tri) (t : Tri) : Bool := l.any fun u => eqT t u
theorem eqT_eq {a b : Tri} : eqT a b = true ↔ a = b := by
  unfold eqT
  simp only [Bool.and_eq_true, bb]
  constructor
  · rintro ⟨⟨h1, h2⟩, h3⟩
    cases a; cases b; simp_all
  · rintro rfl
    exact ⟨⟨rfl, rfl⟩, rfl⟩
theorem hasB_iff {l : List Tri} {t : Tri} : hasB l t = true ↔ t ∈ l := by
  unfold hasB
  rw [List.any_eq_true]
  constructor
  · rintro ⟨u, hu, h⟩
    rw [eqT_eq.1 h]; exact hu
  · intro h
    exact ⟨t, h, eqT_eq.2 rfl⟩
theorem rdTri {l : List Tri} {i : Nat} (h : i < l.length) : rd_T30 l (i : Int) = l[i] := by simp [rd_T30, List.getD_eq_getElem?_getD, h]
theorem w1 {i : Nat} (h : i < 4611686018427387904) : wrap64 ((i : Int) + 1) = ((i + 1 : Nat) : Int) := by unfold wrap64; omega
theorem ads_len {α : Type} (xs : List α) : ∀ D : List α, (ads D xs).length ≤ D.length + xs.length := by
  induction xs with
  | nil => intro D; exact Nat.le_refl _
  | cons x xs ih =>
    intro D
    show (ads (ad D x) xs).length ≤ _
    have h1 : (ad D x).length ≤ D.length + 1 := by
      by_cases h : x ∈ D
      · rw [ad_mem h]; omega
      · rw [ad_new h]; simp
    have := ih (ad D x)
    rw [List.length_cons]
    omega
theorem triL_eq (p : Pol) : (p.f1.flatMap fun s => p.f3.flatMap fun o => p.f0.map fun a => (⟨s.f0, o, a⟩ : Tri)) = triL (namesOf p) p.f3 p.f0 := by
  unfold triL namesOf
  rw [List.flatMap_map]
  refine flat_congr fun s _ => ?_
  rw [List.map_flatMap]
  refine flat_congr fun o _ => ?_
  rw [List.map_map]
  rfl
structure Sz (p : Pol) : Prop where
  l0 : p.f0.length ≤ 1048576
  l1 : p.f1.length ≤ 1048576
  l2 : p.f2.length ≤ 1048576
  l3 : p.f3.length ≤ 1048576
  l4 : p.f4.length ≤ 1048576
  l5 : p.f5.length ≤ 1048576
  l6 : p.f6.length ≤ 1048576
  l7 : p.f7.length ≤ 1048576
  l8 : p.f8.length ≤ 1048576
  l9 : p.f9.length ≤ 1048576
  l10 : p.f10.length ≤ 1048576
  la : ∀ r ∈ p.f9, r.f3.length ≤ 1048576
theorem Sz.ok {p : Pol} (h : Sz p) : okB p = true := okB_iff.2 ⟨by have := h.l5; have := h.l6; omega, by have := h.l7; have := h.l8; omega, by have := h.l9; omega, by have := h.l0; omega, by have := h.l1; omega, by have := h.l3; omega⟩
abbrev tup (p : Pol) := (p.f0, p.f1, p.f2, p.f3, p.f4, p.f5, p.f6, p.f7, p.f8, p.f9, p.f10)
theorem rdRule {l : List Rule} {i : Nat} (h : i < l.length) : rd_T75 l (i : Int) = l[i] := by simp [rd_T75, List.getD_eq_getElem?_getD, h]
/-- Nothing stands twice. -/
theorem ad_nodup {α : Type} {xs : List α} {x : α} (h : xs.Nodup) : (ad xs x).Nodup := by
  by_cases hx : x ∈ xs
  · rw [ad_mem hx]; exact h
  · rw [ad_new hx, List.nodup_append]
    refine ⟨h, by simp, fun a ha b hb e => ?_⟩
    rw [List.mem_singleton] at hb
    subst e
    subst hb
    exact hx ha
theorem ads_nodup {α : Type} (xs : List α) : ∀ D : List α, D.Nodup → (ads D xs).Nodup := by
  induction xs with
  | nil => intro D h; exact h
  | cons x xs ih => intro D h; exact ih (ad D x) (ad_nodup h)
theorem relL_nodup (p : Pol) : (relL p).Nodup := by
  rw [relL_eq]
  exact (ads_nodup _ [] List.nodup_nil).filter _
theorem mem_relL {p : Pol} {t : Tri} : t ∈ relL p ↔ allowsB p t = true := by
  rw [relL_eq, List.mem_filter]
  exact ⟨fun h => h.2, fun h => ⟨allowsB_mem h, h⟩⟩
theorem relL_len (p : Pol) : (relL p).length ≤ p.f1.length * (p.f3.length * p.f0.length) := by
  rw [relL_eq]
  refine Nat.le_trans (List.length_filter_le _ _) ?_
  have h1 := ads_len (triL (namesOf p) p.f3 p.f0) []
  have h2 : (triL (namesOf p) p.f3 p.f0).length ≤ p.f1.length * (p.f3.length * p.f0.length) := by
    rw [← triL_eq]
    refine flat_len _ _ _ fun s _ => flat_len _ _ _ fun o _ => ?_
    rw [List.length_map]
    exact Nat.le_refl _
  have h3 : (allT p).length = (ads [] (triL (namesOf p) p.f3 p.f0)).length := rfl
  rw [h3]
  simp at h1
  omega
end Go.Proofs.Yteefneemmdfncaa.M
