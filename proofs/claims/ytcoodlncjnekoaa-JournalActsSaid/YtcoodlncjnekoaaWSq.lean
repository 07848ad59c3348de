import Derived.Test.YtcoodlncjnekoaaWMore
import Derived.Test.YtcoodlncjnekoaaWEqStruct
import Derived.Test.YtcoodlncjnekoaaWKept
import Derived.Test.YtcoodlncjnekoaaWTab
/- Short words for the printed walks: what a block, a row, a beginning is in a world that is only a draw, an allocation or a store further. No condition. -/
namespace Go.Proofs.YtcoodlncjnekoaaW.PrintWords
open Go.RowKit
set_option linter.unusedVariables false
/-- Every block of w0 stands in w. -/
def Ext (w0 w : World) : Prop := ∀ k, k < w0.heap.size → w.heap[k]? = w0.heap[k]?
theorem Ext.al {w0 w : World} (h : Ext w0 w) (o : Obj) : Ext w0 (w.alloc o) := fun k hk => by
  have h1 := h k hk
  have h2 : k < w.heap.size := by
    rw [Array.getElem?_eq_getElem hk] at h1
    exact (Array.getElem?_eq_some_iff.1 h1).1
  exact (Below.heap_alloc w o k h2).trans h1
theorem Ext.dr {w0 w : World} (h : Ext w0 w) : Ext w0 w.drew := h
theorem Ext.dn {w0 w : World} (h : Ext w0 w) (n : Nat) : Ext w0 (w.drewN n) := h
theorem Ext.size {w0 w : World} (h : Ext w0 w) : w0.heap.size ≤ w.heap.size := by
  cases hn : w0.heap.size with
  | zero => exact Nat.zero_le _
  | succ n =>
    have h1 := h n (by omega)
    have h2 : w0.heap[n]? = some (w0.heap[n]'(by omega)) := Array.getElem?_eq_getElem (by omega)
    have := (Array.getElem?_eq_some_iff.1 (h1.trans h2)).1
    omega
section
variable {w0 w w1 : World} {g : Nat} {o : Obj} {row : Option Nat}
end
section
variable {α : Type} {d : Kd α} {e base : Nat} {ok : Nat → Prop} {v : Value} {xs : List α} {w0 w : World}
end
/-- Every block of w0 but g stands in w. -/
def Ex1 (g : Nat) (w0 w : World) : Prop := ∀ k, k < w0.heap.size → k ≠ g → w.heap[k]? = w0.heap[k]?
theorem Ex1.al {g : Nat} {w0 w : World} (h : Ex1 g w0 w) (o : Obj) : Ex1 g w0 (w.alloc o) := fun k hk hg => by
  have h1 := h k hk hg
  have h2 : k < w.heap.size := by
    rw [Array.getElem?_eq_getElem hk] at h1
    exact (Array.getElem?_eq_some_iff.1 h1).1
  exact (Below.heap_alloc w o k h2).trans h1
theorem Ex1.dr {g : Nat} {w0 w : World} (h : Ex1 g w0 w) : Ex1 g w0 w.drew := h
theorem Ex1.dn {g : Nat} {w0 w : World} (h : Ex1 g w0 w) (n : Nat) : Ex1 g w0 (w.drewN n) := h
theorem Ex1.st {g j : Nat} {v : Value} {w0 w : World} (h : Ex1 g w0 w) : Ex1 g w0 (w.setCell ⟨g, j, none⟩ v) := fun k hk hg => (Below.heap_setCell w _ v k hg).trans (h k hk hg)
section
variable {w0 w w1 : World} {g b : Nat} {o : Obj} {row : Option Nat}
end
/-- A block whose cells are written, one by one. -/
def Put (g : Nat) (w0 : World) (c0 : Array Value) (w : World) (c : Array Value) : Prop := ∀ t, w0.heap[g]? = some (.cells c0 t (0, 0)) → w.heap[g]? = some (.cells c t (0, 0))
theorem Put.go {g : Nat} (w : World) (c : Array Value) : Put g w c w c := fun _ h => h
theorem Put.al {g : Nat} {w0 w : World} {c0 c : Array Value} (h : Put g w0 c0 w c) (o : Obj) : Put g w0 c0 (w.alloc o) c := fun t ht => blk_alloc (h t ht) o
theorem Put.dr {g : Nat} {w0 w : World} {c0 c : Array Value} (h : Put g w0 c0 w c) : Put g w0 c0 w.drew c := h
theorem Put.dn {g : Nat} {w0 w : World} {c0 c : Array Value} (h : Put g w0 c0 w c) (n : Nat) : Put g w0 c0 (w.drewN n) c := h
theorem Put.st {g j : Nat} {v : Value} {w0 w : World} {c0 c c' : Array Value} (h : Put g w0 c0 w c) (e : c.setIfInBounds j v = c') : Put g w0 c0 (w.setCell ⟨g, j, none⟩ v) c' := fun t ht => blk_put (h t ht) j v e
section
variable {α : Type} {d : Kd α} {e base g t j : Nat} {ok : Nat → Prop} {v u : Value} {xs : List α} {w w1 : World} {cells : Array Value}
end
theorem hC {w W : World} {a : Addr} {v : Value} (hB : Aside0 (Below w.heap.size w W)) (h : w.cell? a = some v) : W.cell? a = some v := (hB.out.cell (World.block_lt_of_cell? w a h)).trans h
/-- w is W0, only blocks from base on apart. -/
def Sb (base : Nat) (W0 w : World) : Prop := Below base W0 w
theorem Sb.al {base : Nat} {W0 w : World} (h : base ≤ W0.heap.size → Sb base W0 w) (o : Obj) : base ≤ W0.heap.size → Sb base W0 (w.alloc o) := fun hb => (h hb).alloc (Nat.le_trans hb (h hb).size) o
theorem Sb.dr {base : Nat} {W0 w : World} (h : base ≤ W0.heap.size → Sb base W0 w) : base ≤ W0.heap.size → Sb base W0 w.drew := fun hb => below_drew (h hb)
theorem Sb.dn {base : Nat} {W0 w : World} (h : base ≤ W0.heap.size → Sb base W0 w) (n : Nat) : base ≤ W0.heap.size → Sb base W0 (w.drewN n) := fun hb => pw_below_drewN (h hb) n
theorem Sb.st {base g j : Nat} {v : Value} {W0 w : World} (h : base ≤ W0.heap.size → Sb base W0 w) (hg : Aside0 (base ≤ g)) : base ≤ W0.heap.size → Sb base W0 (w.setCell ⟨g, j, none⟩ v) := fun hb => Below.setCell (h hb) hg.out _
theorem Sb.go {base : Nat} (w : World) : base ≤ w.heap.size → Sb base w w := fun _ => Below.refl _ _
theorem hX {w W0 w1 : World} (h : Aside0 (Below w.heap.size w W0)) {W : World} (hw : w1 = W) (hs : w.heap.size ≤ W0.heap.size → Sb w.heap.size W0 W := by (with_reducible repeat (first | refine Sb.dn ?_ _ | refine Sb.dr ?_ | refine Sb.al ?_ _ | refine Sb.st ?_ ‹_›)); exact Sb.go _) : Aside0 (Below w.heap.size w w1) := ⟨hw ▸ h.out.trans (hs h.out.size)⟩
theorem hF {w W0 W1 W2 : World} (h : Aside0 (Below w.heap.size w W0)) (hb : Below W1.heap.size W1 W2) (hs : w.heap.size ≤ W0.heap.size → Sb w.heap.size W0 W1 := by (with_reducible repeat (first | refine Sb.dn ?_ _ | refine Sb.dr ?_ | refine Sb.al ?_ _ | refine Sb.st ?_ ‹_›)); exact Sb.go _) : Aside0 (Below w.heap.size w W2) := ⟨below_step (h.out.trans (hs h.out.size)) hb⟩
section
variable {α : Type} {d : Kd α} {e base g : Nat} {ok ok' : Nat → Prop} {v : Value} {xs : List α} {w0 w : World}
end
section
variable {w W0 W W2 : World}
theorem hW (h : Aside0 (Below w.heap.size w W0)) (hs : w.heap.size ≤ W0.heap.size → Sb w.heap.size W0 W := by (with_reducible repeat (first | refine Sb.dn ?_ _ | refine Sb.dr ?_ | refine Sb.al ?_ _ | refine Sb.st ?_ ‹_›)); exact Sb.go _) : Below w.heap.size w W := h.out.trans (hs h.out.size)
end
end Go.Proofs.YtcoodlncjnekoaaW.PrintWords
namespace Go.Proofs.YtcoodlncjnekoaaW.PrintLast
open Go.RowKit Go.Proofs.YtcoodlncjnekoaaW.PrintWords
set_option linter.unusedVariables false
section
variable {P : Program} {ops : Array Oper} {Q : Exit → Act → World → Prop} {md : Region.Mode} {S : World → Prop} {ds : List Nat} {T : Bool × List (List Nat × List Nat)} {B : List Nat}
end
end Go.Proofs.YtcoodlncjnekoaaW.PrintLast
namespace Go.Proofs.YtcoodlncjnekoaaW.PrintWords
open Go.RowKit
end Go.Proofs.YtcoodlncjnekoaaW.PrintWords
