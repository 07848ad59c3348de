import Derived.Test.YteefneemmdfncaaDoorWFloat
import Derived.Test.YteefneemmdfncaaDoorWN
import Derived.Test.YteefneemmdfncaaDoorWApart
import Derived.Test.YteefneemmdfncaaDoorWTab
/- Short words for the printed walks: what a block, a row, a beginning is in a world that is only a draw, an allocation or a store further. No condition. -/
namespace Go.Proofs.YteefneemmdfncaaDoorW.PrintWords
open Go.RowKit
set_option linter.unusedVariables false
/-- Block k is not the row's. -/
abbrev oN (k : Nat) (v : Value) : Prop := some k ≠ v.ownBlock
/-- Every block of w0 stands in w. -/
def Ext (w0 w : World) : Prop := ∀ k, k < w0.heap.size → w.heap[k]? = w0.heap[k]?
theorem Ext.rfl_ (w : World) : Ext w w := fun _ _ => rfl
theorem Ext.al {w0 w : World} (h : Ext w0 w) (o : Obj) : Ext w0 (w.alloc o) := fun k hk => by
  have h1 := h k hk
  have h2 : k < w.heap.size := by
    rw [Array.getElem?_eq_getElem hk] at h1
    exact (Array.getElem?_eq_some_iff.1 h1).1
  exact (Below.heap_alloc w o k h2).trans h1
theorem Ext.dr {w0 w : World} (h : Ext w0 w) : Ext w0 w.drew := h
theorem Ext.dn {w0 w : World} (h : Ext w0 w) (n : Nat) : Ext w0 (w.drewN n) := h
theorem Ext.size {w0 w : World} (h : Ext w0 w) : w0.heap.size ≤ w.heap.size := by
  cases hn : w0.heap.size with
  | zero => exact Nat.zero_le _
  | succ n =>
    have h1 := h n (by omega)
    have h2 : w0.heap[n]? = some (w0.heap[n]'(by omega)) := Array.getElem?_eq_getElem (by omega)
    have := (Array.getElem?_eq_some_iff.1 (h1.trans h2)).1
    omega
section
variable {w0 w w1 : World} {g : Nat} {o : Obj} {row : Option Nat}
theorem bE (h : Aside0 (w0.heap[g]? = some o)) (hs : Ext w0 w := by (with_reducible repeat (first | refine Ext.dn ?_ _ | refine Ext.dr ?_ | refine Ext.al ?_ _)); exact Ext.rfl_ _) : w.heap[g]? = some o := (hs g (blk_lt h.out)).trans h.out
theorem bB (h : Aside0 (w0.heap[g]? = some o)) (hb : Below w.heap.size w w1) (hs : Ext w0 w := by (with_reducible repeat (first | refine Ext.dn ?_ _ | refine Ext.dr ?_ | refine Ext.al ?_ _)); exact Ext.rfl_ _) : w1.heap[g]? = some o := blk_below (bE h hs) hb
end
section
variable {α : Type} {d : Kd α} {e base : Nat} {ok : Nat → Prop} {v : Value} {xs : List α} {w0 w : World}
theorem rE (h : d.R e w0 base ok v xs) (hs : Ext w0 w := by (with_reducible repeat (first | refine Ext.dn ?_ _ | refine Ext.dr ?_ | refine Ext.al ?_ _)); exact Ext.rfl_ _) : d.R e w base ok v xs := Kd.R_step h (fun k _ hk => hs k hk)
theorem sE (h : Kd.S d e w0 base ok v xs) (hs : Ext w0 w := by (with_reducible repeat (first | refine Ext.dn ?_ _ | refine Ext.dr ?_ | refine Ext.al ?_ _)); exact Ext.rfl_ _) : Kd.S d e w base ok v xs := by
  obtain ⟨f, hf⟩ := h
  exact ⟨f, Kd.R_step hf (fun k _ hk => hs k hk)⟩
end
/-- Every block of w0 but g stands in w. -/
def Ex1 (g : Nat) (w0 w : World) : Prop := ∀ k, k < w0.heap.size → k ≠ g → w.heap[k]? = w0.heap[k]?
theorem Ex1.rfl_ {g : Nat} (w : World) : Ex1 g w w := fun _ _ _ => rfl
theorem Ex1.al {g : Nat} {w0 w : World} (h : Ex1 g w0 w) (o : Obj) : Ex1 g w0 (w.alloc o) := fun k hk hg => by
  have h1 := h k hk hg
  have h2 : k < w.heap.size := by
    rw [Array.getElem?_eq_getElem hk] at h1
    exact (Array.getElem?_eq_some_iff.1 h1).1
  exact (Below.heap_alloc w o k h2).trans h1
theorem Ex1.dr {g : Nat} {w0 w : World} (h : Ex1 g w0 w) : Ex1 g w0 w.drew := h
theorem Ex1.dn {g : Nat} {w0 w : World} (h : Ex1 g w0 w) (n : Nat) : Ex1 g w0 (w.drewN n) := h
theorem Ex1.st {g j : Nat} {v : Value} {w0 w : World} (h : Ex1 g w0 w) : Ex1 g w0 (w.setCell ⟨g, j, none⟩ v) := fun k hk hg => (Below.heap_setCell w _ v k hg).trans (h k hk hg)
section
variable {w0 w w1 : World} {g b : Nat} {o : Obj} {row : Option Nat}
end
/-- A block whose cells are written, one by one. -/
def Put (g : Nat) (w0 : World) (c0 : Array Value) (w : World) (c : Array Value) : Prop := ∀ t, w0.heap[g]? = some (.cells c0 t (0, 0)) → w.heap[g]? = some (.cells c t (0, 0))
theorem Put.go {g : Nat} (w : World) (c : Array Value) : Put g w c w c := fun _ h => h
theorem Put.al {g : Nat} {w0 w : World} {c0 c : Array Value} (h : Put g w0 c0 w c) (o : Obj) : Put g w0 c0 (w.alloc o) c := fun t ht => blk_alloc (h t ht) o
theorem Put.dr {g : Nat} {w0 w : World} {c0 c : Array Value} (h : Put g w0 c0 w c) : Put g w0 c0 w.drew c := h
theorem Put.dn {g : Nat} {w0 w : World} {c0 c : Array Value} (h : Put g w0 c0 w c) (n : Nat) : Put g w0 c0 (w.drewN n) c := h
theorem Put.st {g j : Nat} {v : Value} {w0 w : World} {c0 c c' : Array Value} (h : Put g w0 c0 w c) (e : c.setIfInBounds j v = c') : Put g w0 c0 (w.setCell ⟨g, j, none⟩ v) c' := fun t ht => blk_put (h t ht) j v e
theorem pK {g t : Nat} {w0 w : World} {c0 c : Array Value} (h : Aside0 (w0.heap[g]? = some (.cells c0 t (0, 0)))) (hs : Put g w0 c0 w c := by (with_reducible repeat (first | apply Put.dn | apply Put.dr | apply Put.al | apply Put.st)); exact Put.go _ _; all_goals (simp only [List.setIfInBounds_toArray, List.set_cons_zero, List.set_cons_succ] <;> rfl)) : w.heap[g]? = some (.cells c t (0, 0)) := hs t h.out
section
variable {α : Type} {d : Kd α} {e base g t j : Nat} {ok : Nat → Prop} {v u : Value} {xs : List α} {w w1 : World} {cells : Array Value}
theorem rF {w2 : World} (h : Aside0 (d.R e w base ok v xs)) (hb : Below w1.heap.size w1 w2) (hs : Ext w w1 := by (with_reducible repeat (first | refine Ext.dn ?_ _ | refine Ext.dr ?_ | refine Ext.al ?_ _)); exact Ext.rfl_ _) : Aside0 (d.R e w2 base ok v xs) := ⟨Kd.R_below (rE h.out hs) hb⟩
theorem kF {w2 : World} {o : Obj} (h : Aside0 (w.heap[g]? = some o)) (hb : Below w1.heap.size w1 w2) (hs : Ext w w1 := by (with_reducible repeat (first | refine Ext.dn ?_ _ | refine Ext.dr ?_ | refine Ext.al ?_ _)); exact Ext.rfl_ _) : Aside0 (w2.heap[g]? = some o) := ⟨bB h hb hs⟩
end
theorem hC {w W : World} {a : Addr} {v : Value} (hB : Aside0 (Below w.heap.size w W)) (h : w.cell? a = some v) : W.cell? a = some v := (hB.out.cell (World.block_lt_of_cell? w a h)).trans h
/-- w is W0, only blocks from base on apart. -/
def Sb (base : Nat) (W0 w : World) : Prop := Below base W0 w
theorem Sb.rfl_ {base : Nat} (w : World) : Sb base w w := Below.refl _ _
theorem Sb.al {base : Nat} {W0 w : World} (h : base ≤ W0.heap.size → Sb base W0 w) (o : Obj) : base ≤ W0.heap.size → Sb base W0 (w.alloc o) := fun hb => (h hb).alloc (Nat.le_trans hb (h hb).size) o
theorem Sb.dr {base : Nat} {W0 w : World} (h : base ≤ W0.heap.size → Sb base W0 w) : base ≤ W0.heap.size → Sb base W0 w.drew := fun hb => below_drew (h hb)
theorem Sb.dn {base : Nat} {W0 w : World} (h : base ≤ W0.heap.size → Sb base W0 w) (n : Nat) : base ≤ W0.heap.size → Sb base W0 (w.drewN n) := fun hb => pw_below_drewN (h hb) n
theorem Sb.st {base g j : Nat} {v : Value} {W0 w : World} (h : base ≤ W0.heap.size → Sb base W0 w) (hg : Aside0 (base ≤ g)) : base ≤ W0.heap.size → Sb base W0 (w.setCell ⟨g, j, none⟩ v) := fun hb => Below.setCell (h hb) hg.out _
theorem Sb.go {base : Nat} (w : World) : base ≤ w.heap.size → Sb base w w := fun _ => Below.refl _ _
theorem hF {w W0 W1 W2 : World} (h : Aside0 (Below w.heap.size w W0)) (hb : Below W1.heap.size W1 W2) (hs : w.heap.size ≤ W0.heap.size → Sb w.heap.size W0 W1 := by (with_reducible repeat (first | refine Sb.dn ?_ _ | refine Sb.dr ?_ | refine Sb.al ?_ _ | refine Sb.st ?_ ‹_›)); exact Sb.go _) : Aside0 (Below w.heap.size w W2) := ⟨below_step (h.out.trans (hs h.out.size)) hb⟩
theorem cE {α : Type} {d : Kd α} {xs : List α} {w0 w : World} {A : Option Addr} {n : Nat} (h : d.C w0 A n xs) (hs : w0.heap.size ≤ w0.heap.size → Sb w0.heap.size w0 w := by (with_reducible repeat (first | refine Sb.dn ?_ _ | refine Sb.dr ?_ | refine Sb.al ?_ _)); exact Sb.go _) : d.C w A n xs := Kd.C_below h (hs (Nat.le_refl _))
section
variable {α : Type} {d : Kd α} {e base g : Nat} {ok ok' : Nat → Prop} {v : Value} {xs : List α} {w0 w : World}
end
section
variable {w W0 W W2 : World}
theorem hW (h : Aside0 (Below w.heap.size w W0)) (hs : w.heap.size ≤ W0.heap.size → Sb w.heap.size W0 W := by (with_reducible repeat (first | refine Sb.dn ?_ _ | refine Sb.dr ?_ | refine Sb.al ?_ _ | refine Sb.st ?_ ‹_›)); exact Sb.go _) : Below w.heap.size w W := h.out.trans (hs h.out.size)
end
end Go.Proofs.YteefneemmdfncaaDoorW.PrintWords
namespace Go.Proofs.YteefneemmdfncaaDoorW.PrintLast
open Go.RowKit Go.Proofs.YteefneemmdfncaaDoorW.PrintWords
set_option linter.unusedVariables false
section
variable {P : Program} {ops : Array Oper} {Q : Exit → Act → World → Prop} {md : Region.Mode} {S : World → Prop} {ds : List Nat} {T : Bool × List (List Nat × List Nat)} {B : List Nat}
/-- pure_ in one word: the value, the act, what is listed are reckoned here. -/
theorem pT (i : Nat) (N : Nat) {oi : Oper} {v : Value} {fuel : Nat} {l l' : Array Bool} {a a' : Act} {w : World} (hT : Aside0 (rtab md ops = T)) (hi : ops[i]? = some oi) (h : wpAnyLast P md ops Q S ds fuel l' a' w) (hN : oi.dst = some N := by exact rfl)
    (hl : l.setIfInBounds i true = l' := by (simp only [List.setIfInBounds_toArray, List.set_cons_zero, List.set_cons_succ]; rfl)) (hc : anyT T l.toList l'.toList i = true := by kernel_rfl)
    (hg : Region.wanted oi (yielded ops a.tmps) = true := by exact rfl) (hy : ∀ w', (execOp a.eval oi).run P w' = .ok (.value v) w' := by (intro w'; go_simp; with_reducible rfl))
    (ha : a.put (some N) v = a' := by (simp only [Act.put, List.setIfInBounds_toArray, List.set_cons_zero, List.set_cons_succ, i64_w, i32_w]; rfl))
    (hQ : ∀ c a1 w1, Q (.panic c) (Act.put a1 oi.dst v) w1 → Q (.panic c) a1 w1 := by exact fun _ _ _ h => h) : wpAnyLast P md ops Q S ds (fuel + 1) l a w :=
  pure_ l' hi hN (any_of hT.out hc) hQ (Or.inl ⟨hg, hy⟩) ha h
theorem tT (i : Nat) (N : Nat) {oi : Oper} {v : Value} {fuel : Nat} {l l' : Array Bool} {a a' : Act} {w : World} (hT : Aside0 (rtab md ops = T)) (hi : ops[i]? = some oi) (hW : Aside0 (waitsOk T.2 B = true)) (hS : S w) (hy : ∀ w', S w' → (execOp a.eval oi).run P w' = .ok (.value v) w') (h : wpAnyLast P md ops Q S ds fuel l' a' w) (hN : oi.dst = some N := by exact rfl)
    (hl : l.setIfInBounds i true = l' := by (simp only [List.setIfInBounds_toArray, List.set_cons_zero, List.set_cons_succ]; rfl)) (hc : takeW T B ds l.toList l'.toList i = true := by kernel_rfl)
    (hg : Region.wanted oi (yielded ops a.tmps) = true := by exact rfl)
    (ha : a.put (some N) v = a' := by (simp only [Act.put, List.setIfInBounds_toArray, List.set_cons_zero, List.set_cons_succ, i64_w, i32_w]; rfl))
    (hQ : ∀ c a1 w1, Q (.panic c) (Act.put a1 oi.dst v) w1 → Q (.panic c) a1 w1 := by exact fun _ _ _ h => h) : wpAnyLast P md ops Q S ds (fuel + 1) l a w :=
  take_ l' hi hN (take_ofW hT.out hW.out hc) hQ (Or.inl ⟨hg, hy⟩) hS ha h
end
end Go.Proofs.YteefneemmdfncaaDoorW.PrintLast
namespace Go.Proofs.YteefneemmdfncaaDoorW.PrintWords
open Go.RowKit
theorem bC2 {w : World} {g t : Nat} {v0 v1 : Value} (h : Aside0 (w.heap[g]? = some (.cells #[v0, v1] t (0, 0)))) : w.cell? ⟨g, 0, none⟩ = some v0 ∧ w.cell? ⟨g, 1, none⟩ = some v1 ∧ w.frozen? ⟨g, 0, none⟩ = false ∧ w.frozen? ⟨g, 1, none⟩ = false := ⟨(blk_cell h.out 0).trans rfl, (blk_cell h.out 1).trans rfl, blk_frozen h.out 0, blk_frozen h.out 1⟩
theorem bC3 {w : World} {g t : Nat} {v0 v1 v2 : Value} (h : Aside0 (w.heap[g]? = some (.cells #[v0, v1, v2] t (0, 0)))) : w.cell? ⟨g, 0, none⟩ = some v0 ∧ w.cell? ⟨g, 1, none⟩ = some v1 ∧ w.cell? ⟨g, 2, none⟩ = some v2 ∧ w.frozen? ⟨g, 0, none⟩ = false ∧ w.frozen? ⟨g, 1, none⟩ = false ∧ w.frozen? ⟨g, 2, none⟩ = false := ⟨(blk_cell h.out 0).trans rfl, (blk_cell h.out 1).trans rfl, (blk_cell h.out 2).trans rfl, blk_frozen h.out 0, blk_frozen h.out 1, blk_frozen h.out 2⟩
theorem bC6 {w : World} {g t : Nat} {v0 v1 v2 v3 v4 v5 : Value} (h : Aside0 (w.heap[g]? = some (.cells #[v0, v1, v2, v3, v4, v5] t (0, 0)))) : w.cell? ⟨g, 0, none⟩ = some v0 ∧ w.cell? ⟨g, 1, none⟩ = some v1 ∧ w.cell? ⟨g, 2, none⟩ = some v2 ∧ w.cell? ⟨g, 3, none⟩ = some v3 ∧ w.cell? ⟨g, 4, none⟩ = some v4 ∧ w.cell? ⟨g, 5, none⟩ = some v5 ∧ w.frozen? ⟨g, 0, none⟩ = false ∧ w.frozen? ⟨g, 1, none⟩ = false ∧ w.frozen? ⟨g, 2, none⟩ = false ∧ w.frozen? ⟨g, 3, none⟩ = false ∧ w.frozen? ⟨g, 4, none⟩ = false ∧ w.frozen? ⟨g, 5, none⟩ = false := ⟨(blk_cell h.out 0).trans rfl, (blk_cell h.out 1).trans rfl, (blk_cell h.out 2).trans rfl, (blk_cell h.out 3).trans rfl, (blk_cell h.out 4).trans rfl, (blk_cell h.out 5).trans rfl, blk_frozen h.out 0, blk_frozen h.out 1, blk_frozen h.out 2, blk_frozen h.out 3, blk_frozen h.out 4, blk_frozen h.out 5⟩
theorem bC11 {w : World} {g t : Nat} {v0 v1 v2 v3 v4 v5 v6 v7 v8 v9 v10 : Value} (h : Aside0 (w.heap[g]? = some (.cells #[v0, v1, v2, v3, v4, v5, v6, v7, v8, v9, v10] t (0, 0)))) : w.cell? ⟨g, 0, none⟩ = some v0 ∧ w.cell? ⟨g, 1, none⟩ = some v1 ∧ w.cell? ⟨g, 2, none⟩ = some v2 ∧ w.cell? ⟨g, 3, none⟩ = some v3 ∧ w.cell? ⟨g, 4, none⟩ = some v4 ∧ w.cell? ⟨g, 5, none⟩ = some v5 ∧ w.cell? ⟨g, 6, none⟩ = some v6 ∧ w.cell? ⟨g, 7, none⟩ = some v7 ∧ w.cell? ⟨g, 8, none⟩ = some v8 ∧ w.cell? ⟨g, 9, none⟩ = some v9 ∧ w.cell? ⟨g, 10, none⟩ = some v10 ∧ w.frozen? ⟨g, 0, none⟩ = false ∧ w.frozen? ⟨g, 1, none⟩ = false ∧ w.frozen? ⟨g, 2, none⟩ = false ∧ w.frozen? ⟨g, 3, none⟩ = false ∧ w.frozen? ⟨g, 4, none⟩ = false ∧ w.frozen? ⟨g, 5, none⟩ = false ∧ w.frozen? ⟨g, 6, none⟩ = false ∧ w.frozen? ⟨g, 7, none⟩ = false ∧ w.frozen? ⟨g, 8, none⟩ = false ∧ w.frozen? ⟨g, 9, none⟩ = false ∧ w.frozen? ⟨g, 10, none⟩ = false := ⟨(blk_cell h.out 0).trans rfl, (blk_cell h.out 1).trans rfl, (blk_cell h.out 2).trans rfl, (blk_cell h.out 3).trans rfl, (blk_cell h.out 4).trans rfl, (blk_cell h.out 5).trans rfl, (blk_cell h.out 6).trans rfl, (blk_cell h.out 7).trans rfl, (blk_cell h.out 8).trans rfl, (blk_cell h.out 9).trans rfl, (blk_cell h.out 10).trans rfl, blk_frozen h.out 0, blk_frozen h.out 1, blk_frozen h.out 2, blk_frozen h.out 3, blk_frozen h.out 4, blk_frozen h.out 5, blk_frozen h.out 6, blk_frozen h.out 7, blk_frozen h.out 8, blk_frozen h.out 9, blk_frozen h.out 10⟩
end Go.Proofs.YteefneemmdfncaaDoorW.PrintWords
