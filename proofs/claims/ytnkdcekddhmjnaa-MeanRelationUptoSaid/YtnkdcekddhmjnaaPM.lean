import Derived.Test.YtnkdcekddhmjnaaPF
import Derived.Test.YtnkdcekddhmjnaaF6
/- The document's Trust, in, Passes, about, Ups, Matches (gatehouseref08), plainly: what mean.Matches says. Conditions: no list is longer than 1048576. -/
namespace Go.Proofs.Ytnkdcekddhmjnaa.M
open Go.RowKit Go.Proofs.YtnkdcekddhmjnaaW.PrintWords Go.Proofs.Ytnkdcekddhmjnaa.F
set_option linter.unusedVariables false
theorem rin_l0 (l : List ByteArray) (x : ByteArray) (hl : l.length ≤ 4194304) (d : Nat) : ∀ i : Nat, i ≤ l.length → l.length - i = d → Evt (fun k => gatehouseref08_in.l0 k l x (i : Int)) (memB (l.drop i) x) := by
  induction d with
  | zero =>
    intro i h1 hd
    rw [List.drop_of_length_le (by omega)]
    refine Evt.now fun k => ?_
    simp only [gatehouseref08_in.l0]
    rw [if_neg (by omega)]
    rfl
  | succ d ih =>
    intro i h1 hd
    have hlt : i < l.length := by omega
    rw [List.drop_eq_getElem_cons hlt]
    by_cases hq : l[i] = x
    · rw [show memB (l[i] :: l.drop (i + 1)) x = true from memB_iff.2 (by simp [hq])]
      refine Evt.now fun k => ?_
      simp only [gatehouseref08_in.l0]
      rw [if_pos (by omega), if_pos (by omega), rdStr hlt, if_pos (by rw [hq])]
    · have e : memB (l[i] :: l.drop (i + 1)) x = memB (l.drop (i + 1)) x := by
        show ((x == l[i]) || memB (l.drop (i + 1)) x) = _
        rw [show (x == l[i]) = false from Bool.eq_false_iff.2 (fun h => hq ((bb _ _).1 h).symm)]
        rfl
      rw [e]
      have h := ih (i + 1) (by omega) (by omega)
      refine h.step fun k => ?_
      simp only [gatehouseref08_in.l0]
      rw [if_pos (by omega), if_pos (by omega), rdStr hlt, if_neg (fun e => hq ((toList_iff _ _).1 e)), w1 (by omega)]
theorem rin_f (l : List ByteArray) (x : ByteArray) (hl : l.length ≤ 4194304) : Evt (fun k => gatehouseref08_in.f k l x) (memB l x) := rin_l0 l x hl l.length 0 (Nat.zero_le _) (by omega)
theorem rtrust_l0 (p : Pol) (n : ByteArray) (hs : Sz p) (d : Nat) : ∀ i : Nat, i ≤ p.f1.length → p.f1.length - i = d →
    Evt (fun k => gatehouseref08_Trust.l0 k n (i : Int) p.f0 p.f1 p.f2 p.f3 p.f4 p.f5 p.f6 p.f7 p.f8 p.f9 p.f10) (match trustOf (p.f1.drop i) n with | none => (0, false) | some tr => (tr, true)) := by
  have hl := hs.l1
  induction d with
  | zero =>
    intro i h1 hd
    rw [List.drop_of_length_le (by omega)]
    refine Evt.now fun k => ?_
    simp only [gatehouseref08_Trust.l0]
    rw [if_neg (by omega)]
    rfl
  | succ d ih =>
    intro i h1 hd
    have hlt : i < p.f1.length := by omega
    rw [List.drop_eq_getElem_cons hlt]
    by_cases hq : p.f1[i].f0 = n
    · rw [show trustOf (p.f1[i] :: p.f1.drop (i + 1)) n = some p.f1[i].f1 from by unfold trustOf; rw [List.find?_cons, (bb _ _).2 hq.symm]; rfl]
      refine Evt.now fun k => ?_
      simp only [gatehouseref08_Trust.l0]
      rw [if_pos (by omega), if_pos (by omega), rdSub hlt, if_pos (by rw [hq])]
    · rw [show trustOf (p.f1[i] :: p.f1.drop (i + 1)) n = trustOf (p.f1.drop (i + 1)) n from by unfold trustOf; rw [List.find?_cons, show (n == p.f1[i].f0) = false from Bool.eq_false_iff.2 (fun h => hq ((bb _ _).1 h).symm)]]
      have h := ih (i + 1) (by omega) (by omega)
      refine h.step fun k => ?_
      simp only [gatehouseref08_Trust.l0]
      rw [if_pos (by omega), if_pos (by omega), rdSub hlt, if_neg (fun e => hq ((toList_iff _ _).1 e)), w1 (by omega)]
theorem rtrust_f (p : Pol) (n : ByteArray) (hs : Sz p) : Evt (fun k => gatehouseref08_Trust.f k p.f0 p.f1 p.f2 p.f3 p.f4 p.f5 p.f6 p.f7 p.f8 p.f9 p.f10 n) (match trustOf p.f1 n with | none => (0, false) | some tr => (tr, true)) := rtrust_l0 p n hs p.f1.length 0 (Nat.zero_le _) (by omega)
theorem rpass_f (r : Rule) (tr : Nat) : gatehouseref08_Passes.f r.f0 r.f1 r.f2 r.f3 r.f4 r.f5 tr = some (passB r.f4 r.f5 tr) := by
  unfold gatehouseref08_Passes.f passB
  by_cases h0 : r.f4 = 0
  · rw [if_pos h0, if_pos h0]
  · rw [if_neg h0, if_neg h0]
    by_cases h1 : r.f4 = 1
    · rw [if_pos h1, if_pos h1]
      have h2 : ¬r.f4 = 2 := by omega
      cases fge tr r.f5 <;> simp [h2]
    · rw [if_neg h1, if_neg h1]
      by_cases h2 : r.f4 = 2
      · rw [if_pos h2, if_pos h2]
      · rw [if_neg h2, if_neg h2]
theorem rabout_f (r : Rule) (us : List ByteArray) (tr : Nat) (uo : List ByteArray) (hu : us.length ≤ 4194304) (ho : uo.length ≤ 4194304) : Evt (fun k => gatehouseref08_about.f k r.f0 r.f1 r.f2 r.f3 r.f4 r.f5 us tr uo) (speakB r tr us uo) := by
  refine Evt.bind (rin_f us r.f1 hu) (f := fun k a => (gatehouseref08_in.f k uo r.f2).bind fun b => (gatehouseref08_Passes.f r.f0 r.f1 r.f2 r.f3 r.f4 r.f5 tr).bind fun c => (if a = true then (if b = true then (some c) else (some false)) else (some false))) ?_
  refine Evt.bind (rin_f uo r.f2 ho) (f := fun k b => (gatehouseref08_Passes.f r.f0 r.f1 r.f2 r.f3 r.f4 r.f5 tr).bind fun c => (if memB us r.f1 = true then (if b = true then (some c) else (some false)) else (some false))) ?_
  refine Evt.now fun k => ?_
  rw [rpass_f]
  unfold speakB
  cases memB us r.f1 <;> cases memB uo r.f2 <;> rfl
structure RGood (ps : List Pair) (a : ByteArray) (l : List ByteArray) : Prop where
  has : a ∈ l
  way : ∀ x ∈ l, Way ps a x
  nd : l.Nodup
theorem way_in {ps : List Pair} {a x : ByteArray} (h : Way ps a x) : x ∈ a :: ps.map (·.f1) := by
  cases h with
  | here => exact List.mem_cons_self
  | on _ hp =>
    obtain ⟨p, h1, _, h2⟩ := hp
    exact List.mem_cons_of_mem _ (List.mem_map.2 ⟨p, h1, h2⟩)
theorem RGood.len {ps : List Pair} {a : ByteArray} {l : List ByteArray} (h : RGood ps a l) : l.length ≤ ps.length + 1 := by
  have := nodup_le (U := a :: ps.map (·.f1)) h.nd (fun x hx => way_in (h.way x hx))
  simpa using this
def RShut (ps : List Pair) (i : Nat) (l : List ByteArray) : Prop := ∀ j (h : j < ps.length), j < i → ps[j].f0 ∈ l → ps[j].f1 ∈ l
theorem RShut.all {ps : List Pair} {a : ByteArray} {l : List ByteArray} (hg : RGood ps a l) (h : RShut ps ps.length l) (x : ByteArray) : x ∈ l ↔ x ∈ upL ps a := by
  rw [mem_upL]
  refine ⟨hg.way x, fun hw => ?_⟩
  induction hw with
  | here => exact hg.has
  | on _ hp ih =>
    obtain ⟨p, h1, h2, h3⟩ := hp
    obtain ⟨j, hj, rfl⟩ := List.getElem_of_mem h1
    rw [← h3]
    exact h j hj hj (by rw [h2]; exact ih)
theorem rdPair {l : List Pair} {i : Nat} (h : i < l.length) : rd_T86 l (i : Int) = l[i] := by simp [rd_T86, List.getD_eq_getElem?_getD, h]
theorem rups_l1 (near far : List Pair) (a : ByteArray) (hn : near.length ≤ 1048576) (hf : far.length ≤ 1048576) (D : Nat) : ∀ n : Nat, (near ++ far).length + 2 - n ≤ D → ∀ (d i : Nat) (l : List ByteArray), i ≤ (near ++ far).length → (near ++ far).length - i = d → RGood (near ++ far) a l → n ≤ l.length → (l.length = n → RShut (near ++ far) i l) →
    ∃ L, Evt (fun k => gatehouseref08_Ups.l1 k near far l (n : Int) (i : Int)) L ∧ RGood (near ++ far) a L ∧ RShut (near ++ far) (near ++ far).length L := by
  have hlen : (near ++ far).length = near.length + far.length := List.length_append
  have ew : wrap64 ((near.length : Int) + (far.length : Int)) = ((near ++ far).length : Int) := by rw [hlen]; unfold wrap64; omega
  induction D with
  | zero =>
    intro n hD d i l _ _ hg hnl _
    have := hg.len
    omega
  | succ D ihD =>
    intro n hD d
    induction d with
    | zero =>
      intro i l h1 hd hg hnl hc
      by_cases he : l.length = n
      · refine ⟨l, Evt.now fun k => ?_, hg, ?_⟩
        · simp only [gatehouseref08_Ups.l1]
          rw [ew, if_neg (by omega), if_pos (by rw [he])]
        · have := hc he
          rwa [show i = (near ++ far).length by omega] at this
      · obtain ⟨L, hL, h2, h3⟩ := ihD l.length (by have := hg.len; omega) (near ++ far).length 0 l (Nat.zero_le _) rfl hg (Nat.le_refl _) (fun _ j _ hj => absurd hj (Nat.not_lt_zero _))
        refine ⟨L, ?_, h2, h3⟩
        have hL' : Evt (fun k => gatehouseref08_Ups.l0 k near far l) L := hL.step fun k => rfl
        refine hL'.step fun k => ?_
        simp only [gatehouseref08_Ups.l1]
        rw [ew, if_neg (by omega), if_neg (by omega)]
    | succ d ih =>
      intro i l h1 hd hg hnl hc
      have hlt : i < (near ++ far).length := by omega
      have hl := hg.len
      obtain ⟨q, hq⟩ : ∃ q, q = (near ++ far)[i] := ⟨_, rfl⟩
      have hj : ∃ L, Evt (fun k => gatehouseref08_Ups.j2 k near far l (n : Int) (i : Int) q.f0 q.f1) L ∧ RGood (near ++ far) a L ∧ RShut (near ++ far) (near ++ far).length L := by
        have go : ∀ l', RGood (near ++ far) a l' → n ≤ l'.length → (l'.length = n → RShut (near ++ far) (i + 1) l') → ∃ L, Evt (fun k => gatehouseref08_Ups.l1 k near far l' (n : Int) (wrap64 ((i : Int) + 1))) L ∧ RGood (near ++ far) a L ∧ RShut (near ++ far) (near ++ far).length L := by
          intro l' g1 g2 g3
          rw [w1 (by omega)]
          exact ih (i + 1) l' (by omega) (by omega) g1 g2 g3
        have i0 := rin_f l q.f0 (by omega)
        have i1 := rin_f l q.f1 (by omega)
        cases hm0 : memB l q.f0 with
        | false =>
          obtain ⟨L, hL, h2, h3⟩ := go l hg hnl (fun e j hj hji hm => by
            by_cases hji' : j = i
            · subst hji'
              rw [← hq, ← memB_iff, hm0] at hm
              cases hm
            · exact hc e j hj (by omega) hm)
          refine ⟨L, ?_, h2, h3⟩
          rw [hm0] at i0
          refine (Evt.bind i0 (f := fun k x => (gatehouseref08_in.f k l q.f1).bind fun y => (if x = true then (if y = true then (gatehouseref08_Ups.l1 k near far l (n : Int) (wrap64 ((i : Int) + 1))) else (if l.length < 8796093022208 then (gatehouseref08_Ups.l1 k near far (l ++ [q.f1]) (n : Int) (wrap64 ((i : Int) + 1))) else (none))) else (gatehouseref08_Ups.l1 k near far l (n : Int) (wrap64 ((i : Int) + 1))))) ?_).step fun k => rfl
          exact Evt.bind i1 (f := fun k y => (if false = true then (if y = true then (gatehouseref08_Ups.l1 k near far l (n : Int) (wrap64 ((i : Int) + 1))) else (if l.length < 8796093022208 then (gatehouseref08_Ups.l1 k near far (l ++ [q.f1]) (n : Int) (wrap64 ((i : Int) + 1))) else (none))) else (gatehouseref08_Ups.l1 k near far l (n : Int) (wrap64 ((i : Int) + 1))))) (hL.same fun k => if_neg (by simp))
        | true =>
          rw [hm0] at i0
          cases hm1 : memB l q.f1 with
          | true =>
            obtain ⟨L, hL, h2, h3⟩ := go l hg hnl (fun e j hj hji hm => by
              by_cases hji' : j = i
              · subst hji'
                rw [← hq]
                exact memB_iff.1 hm1
              · exact hc e j hj (by omega) hm)
            refine ⟨L, ?_, h2, h3⟩
            rw [hm1] at i1
            refine (Evt.bind i0 (f := fun k x => (gatehouseref08_in.f k l q.f1).bind fun y => (if x = true then (if y = true then (gatehouseref08_Ups.l1 k near far l (n : Int) (wrap64 ((i : Int) + 1))) else (if l.length < 8796093022208 then (gatehouseref08_Ups.l1 k near far (l ++ [q.f1]) (n : Int) (wrap64 ((i : Int) + 1))) else (none))) else (gatehouseref08_Ups.l1 k near far l (n : Int) (wrap64 ((i : Int) + 1))))) ?_).step fun k => rfl
            exact Evt.bind i1 (f := fun k y => (if true = true then (if y = true then (gatehouseref08_Ups.l1 k near far l (n : Int) (wrap64 ((i : Int) + 1))) else (if l.length < 8796093022208 then (gatehouseref08_Ups.l1 k near far (l ++ [q.f1]) (n : Int) (wrap64 ((i : Int) + 1))) else (none))) else (gatehouseref08_Ups.l1 k near far l (n : Int) (wrap64 ((i : Int) + 1))))) (hL.same fun k => by rw [if_pos rfl, if_pos rfl])
          | false =>
            have hni : q.f1 ∉ l := fun h => by rw [memB_iff.2 h] at hm1; cases hm1
            have hway : Way (near ++ far) a q.f1 := .on (hg.way _ (memB_iff.1 hm0)) ⟨q, hq ▸ List.getElem_mem hlt, rfl, rfl⟩
            obtain ⟨L, hL, h2, h3⟩ := go (l ++ [q.f1]) ⟨List.mem_append_left _ hg.has, fun x hx => by
                rcases List.mem_append.1 hx with h | h
                · exact hg.way x h
                · rw [List.mem_singleton] at h; rw [h]; exact hway, by
                rw [List.nodup_append]
                exact ⟨hg.nd, by simp, fun x hx y hy e => hni (by rw [List.mem_singleton] at hy; rw [← hy, ← e]; exact hx)⟩⟩ (by rw [List.length_append]; omega) (fun e => by rw [List.length_append, List.length_singleton] at e; omega)
            refine ⟨L, ?_, h2, h3⟩
            rw [hm1] at i1
            refine (Evt.bind i0 (f := fun k x => (gatehouseref08_in.f k l q.f1).bind fun y => (if x = true then (if y = true then (gatehouseref08_Ups.l1 k near far l (n : Int) (wrap64 ((i : Int) + 1))) else (if l.length < 8796093022208 then (gatehouseref08_Ups.l1 k near far (l ++ [q.f1]) (n : Int) (wrap64 ((i : Int) + 1))) else (none))) else (gatehouseref08_Ups.l1 k near far l (n : Int) (wrap64 ((i : Int) + 1))))) ?_).step fun k => rfl
            exact Evt.bind i1 (f := fun k y => (if true = true then (if y = true then (gatehouseref08_Ups.l1 k near far l (n : Int) (wrap64 ((i : Int) + 1))) else (if l.length < 8796093022208 then (gatehouseref08_Ups.l1 k near far (l ++ [q.f1]) (n : Int) (wrap64 ((i : Int) + 1))) else (none))) else (gatehouseref08_Ups.l1 k near far l (n : Int) (wrap64 ((i : Int) + 1))))) (hL.same fun k => by rw [if_pos rfl, if_neg (by simp), if_pos (by omega)])
      obtain ⟨L, hL, h2, h3⟩ := hj
      refine ⟨L, hL.step fun k => ?_, h2, h3⟩
      simp only [gatehouseref08_Ups.l1]
      rw [ew, if_pos (by omega)]
      by_cases hin : i < near.length
      · rw [if_pos (by omega), if_pos (by omega), rdPair hin, hq, List.getElem_append_left hin]
      · have e2 : wrap64 ((i : Int) - (near.length : Int)) = ((i - near.length : Nat) : Int) := by unfold wrap64; omega
        rw [if_neg (by omega), e2, if_pos (by omega), if_pos (by omega), rdPair (by omega), hq, List.getElem_append_right (by omega)]
theorem rups_f (near far : List Pair) (a : ByteArray) (hn : near.length ≤ 1048576) (hf : far.length ≤ 1048576) : ∃ L, Evt (fun k => gatehouseref08_Ups.f k near far a) L ∧ L.length ≤ 4194304 ∧ ∀ x, x ∈ L ↔ x ∈ upL (near ++ far) a := by
  obtain ⟨L, hL, h2, h3⟩ := rups_l1 near far a hn hf _ 1 (Nat.le_refl _) (near ++ far).length 0 [a] (Nat.zero_le _) rfl ⟨by simp, fun x hx => by rw [List.mem_singleton] at hx; rw [hx]; exact .here, by simp⟩ (Nat.le_refl _) (fun _ j _ hj => absurd hj (Nat.not_lt_zero _))
  refine ⟨L, hL.step fun k => rfl, ?_, h3.all h2⟩
  have := h2.len
  rw [List.length_append] at this
  omega
end Go.Proofs.Ytnkdcekddhmjnaa.M
