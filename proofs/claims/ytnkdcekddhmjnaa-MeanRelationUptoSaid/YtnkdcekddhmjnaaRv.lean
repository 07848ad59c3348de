import Derived.Test.YtnkdcekddhmjnaaRoB
import Derived.Test.YtnkdcekddhmjnaaPA
import Derived.Test.YtnkdcekddhmjnaaF19
import Derived.ArgAppend
import Derived.OwnWalk
/- For MeanRelation: an append that tells whether the row moved; an owned row of triples out of a shared one; the document's Same of one list with itself. No condition. -/
namespace Go.Proofs.Ytnkdcekddhmjnaa.M
open Go.RowKit Go.Proofs.YtnkdcekddhmjnaaW.Raw Go.Proofs.YtnkdcekddhmjnaaW.PrintWords Go.Proofs.YtnkdcekddhmjnaaW.PrintLast Go.Proofs.Ytnkdcekddhmjnaa.F
set_option linter.unusedVariables false
theorem grown_any {w w' : World} {row : Option Nat} (h : w.grownBy w' none) : w.grownBy w' row := ⟨h.os, h.tape, h.output, h.size, fun k hk _ => h.block k hk (by simp)⟩
section
variable {P : Program} {ops : Array Oper} {rest : List Oper} {o : Oper} {a : Act} {Q : Exit → Act → World → Prop} {α : Type}
/-- append(v, x), behind 'at_builtin': the row grows where it stands, or it moves and its elder block stays as it was. -/
theorem R_append_two (d : Kd α) {w0 W : World} (base : Nat) (hgd : o.guard = none) (s x : Operand) (t e : TypeId) (z : Value) (bytes : Nat)
    (ho : o.op = .call { callee := .builtin .append, args := #[s, x], argTypes := #[t, t] })
    (ht : P.underlying t = some (.slice e)) (hinfo : (P.info? e).map (fun i => (i.zero, i.size, i.bytes)) = some (some z, d.sz, bytes)) (hz : z.cells.size = d.sz) (hs0 : 0 < d.sz) (hb0 : 0 < bytes)
    (v : Value) (xs : List α) (p : α) (cs : List Value) (ok okp : Nat → Prop) (hs : a.eval s = v) (hx : a.eval x = .slice (some ⟨W.heap.size, 0, none⟩) 1 1) (hp : d.M W base okp p cs) (hokp : ∀ k, okp k → ok k ∧ some k ≠ v.ownBlock) (hfresh : ∀ k, W.heap.size ≤ k → ok k)
    (HO : d.R e W base ok v xs) (HB : Below base w0 W) (hbase : base ≤ W.heap.size) (hl : (xs.length + 1) * bytes ≤ 140737488355328)
    (h : ∀ v1 w1, d.R e w1 base ok v1 (xs ++ [p]) → Below base w0 w1 → ((∃ g c, v = .slice (some ⟨g, 0, none⟩) xs.length c ∧ v1 = .slice (some ⟨g, 0, none⟩) (xs.length + 1) c ∧ W.grownBy w1 (some g)) ∨ ((∃ b, v1.ownBlock = some b ∧ W.heap.size ≤ b) ∧ W.grownBy w1 none)) → wpList P ops Q rest (a.put o.dst v1) w1) :
    wpList P ops Q (o :: rest) a (W.alloc (.cells cs.toArray e)) := by
  obtain ⟨h0, inner, hown, hr⟩ := HO
  obtain ⟨i0, hi, hzz⟩ := Option.map_eq_some_iff.1 hinfo
  simp only [Prod.mk.injEq] at hzz
  obtain ⟨hz0, hz1, hz2⟩ := hzz
  have hcs : cs.length = d.sz := d.K_len (d.K_of_M hp)
  have h1 := d.K_one (d.K_of_M hp)
  have hlen : xs.length + 1 ≤ 140737488355328 := Nat.le_trans (Nat.le_mul_of_pos_right _ hb0) hl
  have hnews : ∀ j u, cs[j]? = some u → (W.alloc (.cells cs.toArray e)).cell? ((⟨W.heap.size, 0, none⟩ : Addr).add j) = some u := by simpa using World.news_of_block (cs := cs.toArray) (t := e) (fr := (0, 0)) (heap_alloc_new W (.cells cs.toArray e))
  have hga : ∀ row, W.grownBy (W.alloc (.cells cs.toArray e)) row := fun row => World.grownBy_alloc W _ _
  have hml : xs.length + 1 ≤ maxLen := by simp only [maxLen]; omega
  have hgrow : ∀ (v' : Value) (w' : World), w'.ownsRow (W.alloc (.cells cs.toArray e)).heap.size e d.sz v' (xs.length + 1) (inner ++ cs) → (W.alloc (.cells cs.toArray e)).grownBy w' none → wpList P ops Q rest (a.put o.dst v') w' := by
    intro v' w' hw hg
    obtain ⟨b, hb, hle⟩ : ∃ b, v'.ownBlock = some b ∧ W.heap.size ≤ b := by
      rcases hw.2 with ⟨_, h2⟩ | ⟨g, cap, cur, rfl, hb, _⟩
      · omega
      · exact ⟨g, rfl, Nat.le_trans (by simp) hb⟩
    have hown2 : w'.ownsRow base e d.sz v' (xs.length + 1) (inner ++ cs) := by
      refine ⟨hw.1, hw.2.imp (fun h => h) ?_⟩
      rintro ⟨g, cap, cur, e1, e2, e3⟩
      exact ⟨g, cap, cur, e1, Nat.le_trans (Nat.le_trans hbase (by simp)) e2, e3⟩
    have hg2 : W.grownBy w' none := World.grownBy.trans (hga none) hg
    exact h v' w' (Kd.R_appended h0 hr hp hokp hfresh hown2 (grown_any hg2) (.inr ⟨b, hb, hle⟩)) (HB.grown hg2 hbase (fun k hk => by cases hk)) (.inr ⟨⟨b, hb, hle⟩, hg2⟩)
  have hown0 := hown
  rcases hown.2 with ⟨rfl, hn0⟩ | ⟨g, cap, cur, rfl, hb, hh, hnc, hcm, hcs2, htk⟩
  · have hin : inner = [] := List.eq_nil_of_length_eq_zero (by rw [hown.1, hn0]; simp)
    refine wpList_append_grows (W.alloc (.cells cs.toArray e)) hgd s x t ho e i0 z d.sz bytes ht hi hz0 hz1 hz2 hz hs0 none 0 0 [] hs (fun _ => ⟨rfl, rfl⟩) (by simp) (fun b hb => by cases hb) ⟨W.heap.size, 0, none⟩ 1 1 cs hx (by rw [hcs]; simp) hnews h1 (by omega) (by simp only [maxLen]; omega) (by rw [hn0] at hl; exact hl) ?_
    intro v' w' hw hg
    refine hgrow v' w' ?_ hg
    rw [hin, hn0]
    exact hw
  · by_cases hfit : xs.length + 1 ≤ cap
    · refine wpList_append_fits (W.alloc (.cells cs.toArray e)) hgd s x t ho base e i0 d.sz ht hi hz1 g xs.length cap inner hs (hown0.alloc _) ⟨W.heap.size, 0, none⟩ 1 1 cs hx (by rw [hcs]; simp) hnews h1 hfit ?_
      intro w' hw hg
      have hg2 : W.grownBy w' (some g) := World.grownBy.trans (hga (some g)) hg
      exact h _ w' (Kd.R_appended h0 hr hp hokp hfresh hw hg2 (.inl rfl)) (HB.grown hg2 hbase (fun k hk => by injection hk with hk; omega)) (.inl ⟨g, cap, rfl, rfl, hg2⟩)
    · refine wpList_append_grows (W.alloc (.cells cs.toArray e)) hgd s x t ho e i0 z d.sz bytes ht hi hz0 hz1 hz2 hz hs0 (some ⟨g, 0, none⟩) xs.length cap inner hs (fun h => by cases h) hown.1 ?_ ⟨W.heap.size, 0, none⟩ 1 1 cs hx (by rw [hcs]; simp) hnews h1 (by omega) hml hl hgrow
      intro b hb2 j u hu
      injection hb2 with hb2
      subst hb2
      have hlt : j < xs.length * d.sz := by
        have := (List.getElem?_eq_some_iff.1 hu).1
        rw [hown.1] at this
        exact this
      have hold : (W.alloc (.cells cs.toArray e)).heap[g]? = some (.cells cur e (0, 0)) := (heap_alloc_old W _ (blk_lt hh)).trans hh
      rw [← htk, List.getElem?_take_of_lt hlt] at hu
      rw [Addr.add_lit, Nat.zero_add]
      refine (blk_cell hold j).trans ?_
      simpa using hu
end
/-- A row of triples of its own, out of a row whose elements may be shared: they lead to nothing. -/
theorem R_of_N {w : World} {base : Nat} {ok : Nat → Prop} {v : Value} {xs : List Tri} (h : Kd.N k36 36 w base ok v xs) : Kd.R k36 36 w base ok v xs := by
  obtain ⟨h0, rows, hl, ⟨h1, inner, ho, hr⟩, hf⟩ := h
  refine ⟨h0, inner, by rw [← hl]; exact ho, by rw [← hl]; exact hr.1, fun j x hx => ?_⟩
  have hj : j < rows.length := by rw [hl]; exact (List.getElem?_eq_some_iff.1 hx).1
  have h2 := hr.2 j _ (List.getElem?_eq_getElem hj)
  have h3 := hf j x _ hx (List.getElem?_eq_getElem hj)
  have h4 : k36.K w x rows[j] := h3 w (fun _ _ _ => rfl)
  have h5 := k36_open h4
  show k36.M w base _ x (List.take (Kd.raw k36.sz).sz (List.drop (j * (Kd.raw k36.sz).sz) inner))
  rw [h2.1, h5]
  exact k36_mkM _ _ _ x
theorem same_l0 (l : List Tri) (hl : l.length ≤ 4611686018427387904) (d : Nat) : ∀ (i : Nat), i ≤ l.length → l.length - i = d → Evt (fun k => gatehouseref08_Same.l0 k l l (i : Int)) true := by
  induction d with
  | zero =>
    intro i h1 hd
    refine Evt.now fun k => ?_
    simp only [gatehouseref08_Same.l0]
    rw [if_neg (by omega)]
  | succ d ih =>
    intro i h1 hd
    refine (ih (i + 1) (by omega) (by omega)).step fun k => ?_
    simp only [gatehouseref08_Same.l0]
    rw [if_pos (by omega), if_pos (by omega), if_pos (by omega), if_neg (by simp), w1 (by omega)]
theorem same_k (l : List Tri) (hl : l.length ≤ 4611686018427387904) (A B : Option Addr) (c d : Nat) (w : World) (h1 : Kd.C k36 w A l.length l) (hc : l.length ≤ c) (h2 : Kd.C k36 w B l.length l) (hd : l.length ≤ d) :
    Calls Try.prog 29 #[.slice A l.length c, .slice B l.length d] w fun e w' => e = .returned (.bool true) ∧ Below w.heap.size w w' := by
  obtain ⟨k, hk⟩ := same_l0 l hl l.length 0 (Nat.zero_le _) rfl
  have hf : gatehouseref08_Same.f k l l = some true := by
    unfold gatehouseref08_Same.f
    rw [if_pos rfl]
    exact hk k (Nat.le_refl _)
  exact (gatehouseref08_Same.calls k A c l B d l true w h1 hc h2 hd hf).mono fun e w' ⟨h1, h2⟩ => ⟨h1, h2.below⟩
end Go.Proofs.Ytnkdcekddhmjnaa.M
