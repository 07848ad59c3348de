/- The order of rules, pairs and excepts says nothing (MeanOrder), plainly. Conditions: no list, and no rule's list of actions, is longer than 1048576; the number is an int. -/
import Derived.Test.YtnkdcekddhmjnaaPF
import Derived.Test.YtnkdcekddhmjnaaF17
import Derived.Test.YtnkdcekddhmjnaaF16
namespace Go.Proofs.Ytnkdcekddhmjnaa.M
open Go.RowKit Go.Proofs.YtnkdcekddhmjnaaW.PrintWords Go.Proofs.Ytnkdcekddhmjnaa.F
set_option linter.unusedVariables false
theorem Evt.bindIf {α β : Type} {g : Nat → Option α} {a : α} {c : α → Prop} [∀ x, Decidable (c x)] {f : Nat → α → Option β} {r : β} (h1 : Evt g a) (hc : c a) (h2 : Evt (fun k => f k a) r) : Evt (fun k => (g k).bind fun x => if c x then f k x else none) r :=
  Evt.bind h1 (f := fun k x => if c x then f k x else none) (h2.same fun k => if_pos hc)
def pick {α : Type} (g : Nat → α) (f : Nat → Nat) (i d : Nat) : List α := (List.range' i d).map fun j => g (f j)
theorem pick_succ {α : Type} (g : Nat → α) (f : Nat → Nat) (i d : Nat) : pick g f i (d + 1) = g (f i) :: pick g f (i + 1) d := by
  unfold pick
  rw [List.range'_succ]
  rfl
theorem pick_len {α : Type} (g : Nat → α) (f : Nat → Nat) (i d : Nat) : (pick g f i d).length = d := by simp [pick]
theorem pick_mem {α : Type} {l : List α} {g : Nat → α} {f : Nat → Nat} (hg : ∀ m (h : m < l.length), g m = l[m]) (hf : ∀ j, j < l.length → f j < l.length) (hs : ∀ m, m < l.length → ∃ j, j < l.length ∧ f j = m) (x : α) : x ∈ pick g f 0 l.length ↔ x ∈ l := by
  unfold pick
  rw [List.mem_map]
  constructor
  · rintro ⟨j, hj, rfl⟩
    rw [List.mem_range'_1] at hj
    have h1 := hf j (by omega)
    rw [hg _ h1]
    exact List.getElem_mem h1
  · intro hx
    obtain ⟨m, hm, rfl⟩ := List.mem_iff_getElem.1 hx
    obtain ⟨j, hj, rfl⟩ := hs m hm
    exact ⟨j, by rw [List.mem_range'_1]; omega, hg _ hm⟩
theorem rdPair {l : List Pair} {i : Nat} (h : i < l.length) : rd_T86 l (i : Int) = l[i] := by simp [rd_T86, List.getD_eq_getElem?_getD, h]
def trn (n : Nat) (fr : Int) (i : Nat) : Nat := if fr < 0 then n - 1 - i else (i + (fr.toNat % n)) % n
theorem trn_lt {n : Nat} {fr : Int} {j : Nat} (h : j < n) : trn n fr j < n := by
  unfold trn
  split
  · omega
  · exact Nat.mod_lt _ (by omega)
theorem trn_hit {n : Nat} {fr : Int} {m : Nat} (h : m < n) : ∃ j, j < n ∧ trn n fr j = m := by
  unfold trn
  by_cases hf : fr < 0
  · exact ⟨n - 1 - m, by omega, by rw [if_pos hf]; omega⟩
  · have hs : fr.toNat % n < n := Nat.mod_lt _ (by omega)
    obtain ⟨s, hs'⟩ : ∃ s, s = fr.toNat % n := ⟨_, rfl⟩
    rw [← hs'] at hs
    refine ⟨(m + (n - s)) % n, Nat.mod_lt _ (by omega), ?_⟩
    rw [if_neg hf, ← hs', Nat.mod_add_mod, show m + (n - s) + s = m + n by omega, Nat.add_mod_right, Nat.mod_eq_of_lt h]
theorem w_rev {n i : Nat} (h : i < n) (hn : n ≤ 1048576) : wrap64 (wrap64 ((n : Int) - 1) - (i : Int)) = ((n - 1 - i : Nat) : Int) := by
  have h1 : wrap64 ((n : Int) - 1) = (n : Int) - 1 := by unfold wrap64; omega
  rw [h1]
  unfold wrap64
  omega
theorem w_rot {n i : Nat} {fr : Int} (h : i < n) (hn : n ≤ 1048576) (hf : ¬ fr < 0) : Int.tmod (wrap64 ((i : Int) + Int.tmod fr (n : Int))) (n : Int) = ((trn n fr i : Nat) : Int) := by
  obtain ⟨m, rfl⟩ := Int.eq_ofNat_of_zero_le (Int.not_lt.1 hf)
  have h1 : Int.tmod (m : Int) (n : Int) = ((m % n : Nat) : Int) := rfl
  have h2 : m % n < n := Nat.mod_lt _ (by omega)
  rw [h1]
  have h3 : wrap64 ((i : Int) + ((m % n : Nat) : Int)) = ((i + m % n : Nat) : Int) := by
    obtain ⟨s, hs⟩ : ∃ s, s = m % n := ⟨_, rfl⟩
    rw [← hs] at h2 ⊢
    unfold wrap64
    omega
  rw [h3]
  unfold trn
  rw [if_neg hf]
  rfl
theorem turned_l0 (l : List Pair) (fr : Int) (hl : l.length ≤ 1048576) (d : Nat) : ∀ (i : Nat) (x5 : List Pair), i ≤ l.length → l.length - i = d → x5.length ≤ i →
    Evt (fun k => gatehouselaw08_turned.l0 k l fr x5 (i : Int)) (x5 ++ pick (fun m => rd_T86 l (m : Int)) (trn l.length fr) i d) := by
  induction d with
  | zero =>
    intro i x5 h1 hd hx
    refine Evt.now fun k => ?_
    simp only [gatehouselaw08_turned.l0]
    rw [if_neg (by omega)]
    simp [pick]
  | succ d ih =>
    intro i x5 h1 hd hx
    have hlt : i < l.length := by omega
    have ht := trn_lt (fr := fr) hlt
    have h := ih (i + 1) (x5 ++ [rd_T86 l ((trn l.length fr i : Nat) : Int)]) (by omega) (by omega) (by simp; omega)
    rw [List.append_assoc] at h
    rw [pick_succ]
    refine h.step fun k => ?_
    simp only [gatehouselaw08_turned.l0]
    rw [if_pos (by omega)]
    by_cases hf : fr < 0
    · have e : l.length - 1 - i = trn l.length fr i := by unfold trn; rw [if_pos hf]
      rw [if_pos hf, w_rev hlt hl, e, if_pos (by omega), if_pos (by omega), if_pos (by omega), w1 (by omega)]
    · rw [if_neg hf, if_neg (by omega), w_rot hlt hl hf, if_pos (by omega), if_pos (by omega), if_pos (by omega), w1 (by omega)]
def trnL (l : List Pair) (fr : Int) : List Pair := pick (fun m => rd_T86 l (m : Int)) (trn l.length fr) 0 l.length
theorem turned_f (l : List Pair) (fr : Int) (hl : l.length ≤ 1048576) : Evt (fun k => gatehouselaw08_turned.f k l fr) (trnL l fr) :=
  turned_l0 l fr hl l.length 0 [] (Nat.zero_le _) (by omega) (Nat.le_refl _)
theorem trnL_mem (l : List Pair) (fr : Int) (x : Pair) : x ∈ trnL l fr ++ l ↔ x ∈ l := by
  have := pick_mem (l := l) (g := fun m => rd_T86 l (m : Int)) (f := trn l.length fr) (fun m h => rdPair h) (fun j h => trn_lt h) (fun m h => trn_hit h) x
  rw [List.mem_append]
  exact ⟨fun h => h.elim (fun h => this.1 h) id, .inr⟩
theorem trnL_len (l : List Pair) (fr : Int) : (trnL l fr).length = l.length := pick_len _ _ _ _
def revR (l : List Rule) : List Rule := pick (fun m => rd_T27 l (m : Int)) (fun j => l.length - 1 - j) 0 l.length
def revT (l : List Tri) : List Tri := pick (fun m => rd_T36 l (m : Int)) (fun j => l.length - 1 - j) 0 l.length
theorem revR_mem (l : List Rule) (x : Rule) : x ∈ revR l ++ l ↔ x ∈ l := by
  have := pick_mem (l := l) (g := fun m => rd_T27 l (m : Int)) (f := fun j => l.length - 1 - j) (fun m h => rdRule h) (fun j h => by show l.length - 1 - j < _; omega) (fun m h => ⟨l.length - 1 - m, by omega, by show l.length - 1 - (l.length - 1 - m) = m; omega⟩) x
  rw [List.mem_append]
  exact ⟨fun h => h.elim (fun h => this.1 h) id, .inr⟩
theorem revT_mem (l : List Tri) (x : Tri) : x ∈ revT l ++ l ↔ x ∈ l := by
  have := pick_mem (l := l) (g := fun m => rd_T36 l (m : Int)) (f := fun j => l.length - 1 - j) (fun m h => rdTri h) (fun j h => by show l.length - 1 - j < _; omega) (fun m h => ⟨l.length - 1 - m, by omega, by show l.length - 1 - (l.length - 1 - m) = m; omega⟩) x
  rw [List.mem_append]
  exact ⟨fun h => h.elim (fun h => this.1 h) id, .inr⟩
def ordP (p : Pol) (fr : Int) : Pol := { p with f5 := trnL p.f5 fr ++ p.f5, f6 := trnL p.f6 fr ++ p.f6, f7 := trnL p.f7 fr ++ p.f7, f8 := trnL p.f8 fr ++ p.f8, f9 := revR p.f9 ++ p.f9, f10 := revT p.f10 ++ p.f10 }
theorem ord_rel (p : Pol) (fr : Int) : relL (ordP p fr) = relL p := by
  refine order_rel rfl rfl rfl (fun x => ?_) (fun x => ?_) (fun x => revR_mem p.f9 x) (fun x => revT_mem p.f10 x)
  · exact (List.mem_append.trans (or_congr (trnL_mem p.f5 fr x) (trnL_mem p.f6 fr x))).trans List.mem_append.symm
  · exact (List.mem_append.trans (or_congr (trnL_mem p.f7 fr x) (trnL_mem p.f8 fr x))).trans List.mem_append.symm
theorem ord_ok (p : Pol) (fr : Int) (hs : Sz p) (hcap : p.f1.length * (p.f3.length * p.f0.length) ≤ 65536) : okR (ordP p fr) = true := by
  have h5 := hs.l5
  have h6 := hs.l6
  have h7 := hs.l7
  have h8 := hs.l8
  have h9 := hs.l9
  have e5 : (trnL p.f5 fr ++ p.f5).length = p.f5.length + p.f5.length := by rw [List.length_append, trnL_len]
  have e6 : (trnL p.f6 fr ++ p.f6).length = p.f6.length + p.f6.length := by rw [List.length_append, trnL_len]
  have e7 : (trnL p.f7 fr ++ p.f7).length = p.f7.length + p.f7.length := by rw [List.length_append, trnL_len]
  have e8 : (trnL p.f8 fr ++ p.f8).length = p.f8.length + p.f8.length := by rw [List.length_append, trnL_len]
  have e9 : (revR p.f9 ++ p.f9).length = p.f9.length + p.f9.length := by rw [List.length_append]; congr 1; exact pick_len _ _ _ _
  exact okR_iff.2 ⟨⟨by show (trnL p.f5 fr ++ p.f5).length + (trnL p.f6 fr ++ p.f6).length ≤ _; omega, by show (trnL p.f7 fr ++ p.f7).length + (trnL p.f8 fr ++ p.f8).length ≤ _; omega, by show (revR p.f9 ++ p.f9).length ≤ _; omega, Nat.le_trans hs.l0 (by omega), Nat.le_trans hs.l1 (by omega), Nat.le_trans hs.l3 (by omega)⟩, by show p.f1.length * (p.f3.length * p.f0.length) ≤ _; omega⟩
theorem ord_relf (p : Pol) (fr : Int) (h : okR (ordP p fr) = true) : mean_Relation.f p.f0 p.f1 p.f2 p.f3 p.f4 (trnL p.f5 fr ++ p.f5) (trnL p.f6 fr ++ p.f6) (trnL p.f7 fr ++ p.f7) (trnL p.f8 fr ++ p.f8) (revR p.f9 ++ p.f9) (revT p.f10 ++ p.f10) = some (relL p) := by
  have h1 : mean_Relation.f p.f0 p.f1 p.f2 p.f3 p.f4 (trnL p.f5 fr ++ p.f5) (trnL p.f6 fr ++ p.f6) (trnL p.f7 fr ++ p.f7) (trnL p.f8 fr ++ p.f8) (revR p.f9 ++ p.f9) (revT p.f10 ++ p.f10) = some (relL (ordP p fr)) := if_pos h
  exact h1.trans (congrArg some (ord_rel p fr))
theorem ord_l1 (p : Pol) (fr : Int) (hs : Sz p) (hR : okR p = true) (hcap : p.f1.length * (p.f3.length * p.f0.length) ≤ 65536) (d : Nat) : ∀ (i : Nat) (x10 : List Tri), i ≤ p.f10.length → p.f10.length - i = d → x10.length ≤ i →
    x10 ++ pick (fun m => rd_T36 p.f10 (m : Int)) (fun j => p.f10.length - 1 - j) i d = revT p.f10 → Evt (fun k => gatehouselaw08_MeanOrder.l1 k fr true (i : Int) p.f0 p.f1 p.f2 p.f3 p.f4 p.f5 p.f6 p.f7 p.f8 p.f9 p.f10 p.f0 p.f1 p.f2 p.f3 p.f4 p.f5 p.f6 p.f7 p.f8 (revR p.f9 ++ p.f9) x10) true := by
  have h5 := hs.l5
  have h6 := hs.l6
  have h7 := hs.l7
  have h8 := hs.l8
  have h10 := hs.l10
  have hRo := ord_ok p fr hs hcap
  induction d with
  | zero =>
    intro i x10 h1 hd hx h
    have h : x10 = revT p.f10 := by rw [← h]; simp [pick]
    have hrel : mean_Relation.f p.f0 p.f1 p.f2 p.f3 p.f4 (trnL p.f5 fr ++ p.f5) (trnL p.f6 fr ++ p.f6) (trnL p.f7 fr ++ p.f7) (trnL p.f8 fr ++ p.f8) (revR p.f9 ++ p.f9) (x10 ++ p.f10) = some (relL p) := by
      rw [h]
      exact ord_relf p fr hRo
    have hl : (relL p).length ≤ 65536 := Nat.le_trans (rel_le p) hcap
    have he := equal_f (a := relL p) (b := relL p) rfl (by omega)
    refine Evt.step (h := ?h) ?main (fun k => ?e)
    case e =>
      simp only [gatehouselaw08_MeanOrder.l1, if_true]
      rw [if_neg (by omega), if_pos (by omega)]
    case main =>
      refine Evt.bindIf (turned_f p.f5 fr h5) (by rw [trnL_len]; omega) ?_
      refine Evt.bindIf (turned_f p.f6 fr h6) (by rw [trnL_len]; omega) ?_
      refine Evt.bindIf (turned_f p.f7 fr h7) (by rw [trnL_len]; omega) ?_
      refine Evt.bindIf (turned_f p.f8 fr h8) (by rw [trnL_len]; omega) ?_
      refine (Evt.bind he (f := fun k z => some z) (Evt.now fun k => rfl)).same fun k => ?_
      refine (bind_of hrel).trans ?_
      exact bind_of (rel_f hR)
  | succ d ih =>
    intro i x10 h1 hd hx h
    have hlt : i < p.f10.length := by omega
    rw [pick_succ] at h
    have h2 := ih (i + 1) (x10 ++ [rd_T36 p.f10 ((p.f10.length - 1 - i : Nat) : Int)]) (by omega) (by omega) (by simp; omega) (by rw [List.append_assoc]; exact h)
    refine h2.step fun k => ?_
    simp only [gatehouselaw08_MeanOrder.l1]
    rw [if_pos (by omega), w_rev hlt (by omega), if_pos (by omega), if_pos (by omega), if_pos (by omega), w1 (by omega)]
theorem ord_l0 (p : Pol) (fr : Int) (hs : Sz p) (hR : okR p = true) (hcap : p.f1.length * (p.f3.length * p.f0.length) ≤ 65536) (d : Nat) : ∀ (i : Nat) (x9 : List Rule), i ≤ p.f9.length → p.f9.length - i = d → x9.length ≤ i →
    x9 ++ pick (fun m => rd_T27 p.f9 (m : Int)) (fun j => p.f9.length - 1 - j) i d = revR p.f9 → Evt (fun k => gatehouselaw08_MeanOrder.l0 k fr true (i : Int) p.f0 p.f1 p.f2 p.f3 p.f4 p.f5 p.f6 p.f7 p.f8 p.f9 p.f10 p.f0 p.f1 p.f2 p.f3 p.f4 p.f5 p.f6 p.f7 p.f8 x9) true := by
  have h9 := hs.l9
  induction d with
  | zero =>
    intro i x9 h1 hd hx h
    have h : x9 = revR p.f9 := by rw [← h]; simp [pick]
    have h2 := ord_l1 p fr hs hR hcap p.f10.length 0 [] (Nat.zero_le _) (by omega) (Nat.le_refl _) (by rw [List.nil_append]; rfl)
    refine h2.step fun k => ?_
    simp only [gatehouselaw08_MeanOrder.l0]
    rw [if_neg (by omega), if_pos (by omega), h]
    rfl
  | succ d ih =>
    intro i x9 h1 hd hx h
    have hlt : i < p.f9.length := by omega
    rw [pick_succ] at h
    have h2 := ih (i + 1) (x9 ++ [rd_T27 p.f9 ((p.f9.length - 1 - i : Nat) : Int)]) (by omega) (by omega) (by simp; omega) (by rw [List.append_assoc]; exact h)
    refine h2.step fun k => ?_
    simp only [gatehouselaw08_MeanOrder.l0]
    rw [if_pos (by omega), w_rev hlt (by omega), if_pos (by omega), if_pos (by omega), if_pos (by omega), w1 (by omega)]
theorem ord_f (p : Pol) (fr : Int) (hs : Sz p) : Evt (fun k => gatehouselaw08_MeanOrder.f k p.f0 p.f1 p.f2 p.f3 p.f4 p.f5 p.f6 p.f7 p.f8 p.f9 p.f10 fr) true := by
  obtain ⟨b, hb, hc⟩ := vast_f p hs.l1 hs.l3 hs.l0
  cases b with
  | true =>
    refine Evt.now fun k => ?_
    unfold gatehouselaw08_MeanOrder.f
    show (gatehouselaw08_vast.f p.f0 p.f1 p.f2 p.f3 p.f4 p.f5 p.f6 p.f7 p.f8 p.f9 p.f10).bind _ = _
    rw [hb]
    rfl
  | false =>
    have hcap := hc rfl
    have hk := hs.ok
    have hR : okR p = true := okR_iff.2 ⟨okB_iff.1 hk, by omega⟩
    have h0 := ord_l0 p fr hs hR hcap p.f9.length 0 [] (Nat.zero_le _) (by omega) (Nat.le_refl _) (by rw [List.nil_append]; rfl)
    refine (Evt.bind (twin_f p hs) (f := fun k x => gatehouselaw08_MeanOrder.l0 k fr true 0 p.f0 p.f1 p.f2 p.f3 p.f4 p.f5 p.f6 p.f7 p.f8 p.f9 p.f10 x.1 x.2.1 x.2.2.1 x.2.2.2.1 x.2.2.2.2.1 x.2.2.2.2.2.1 x.2.2.2.2.2.2.1 x.2.2.2.2.2.2.2.1 x.2.2.2.2.2.2.2.2.1 []) h0).same fun k => ?_
    unfold gatehouselaw08_MeanOrder.f
    show (gatehouselaw08_vast.f p.f0 p.f1 p.f2 p.f3 p.f4 p.f5 p.f6 p.f7 p.f8 p.f9 p.f10).bind _ = _
    rw [hb]
    rfl
end Go.Proofs.Ytnkdcekddhmjnaa.M
