import Derived.Test.YteefneemmdfncaaDoorWLi
import Derived.Test.YteefneemmdfncaaDoorPC
import Derived.Test.YteefneemmdfncaaDoorPx
/- A region that draws its order and whose last operation is a store into a field: the store at an offset. No condition. -/
namespace Go.Proofs.YteefneemmdfncaaDoorW.PrintAll
open Go.RowKit Go.Proofs.YteefneemmdfncaaDoorW.PrintWords Go.Proofs.YteefneemmdfncaaDoorW.PrintLast
set_option linter.unusedVariables false
section
variable {P : Program} {ops : Array Oper} {Q : Exit → Act → World → Prop}
/-- A store into a block from the cell k on, in a region that draws. -/
theorem fstore_step {o : Oper} {a : Act} {K : Act → World → Prop} {W : World} {t e : TypeId} {p : Tmp} {v : Operand} (hw : Region.wanted o (yielded ops a.tmps) = true) (ho : o.op = .store t (.tmp p) v) (hN : o.dst = none) (g k : Nat) (cur seg new : Array Value) (u : Value)
    (hp : a.eval (.tmp p) = .pointer (some ⟨g, k, none⟩)) (hv : a.eval v = u) (hu : u.cells.toList = seg.toList) (hh : W.heap[g]? = some (.cells cur e (0, 0))) (ht : (P.info? t).map (·.size) = some seg.size) (hsz : k + seg.size ≤ cur.size) (h1 : ∀ q ∈ seg.toList, q.oneCell' = true)
    (hnew : cur.toList.take k ++ seg.toList ++ cur.toList.drop (k + seg.toList.length) = new.toList)
    (h : ∀ w1 : World, w1.heap[g]? = some (.cells new e (0, 0)) → (∀ i, i ≠ g → w1.heap[i]? = W.heap[i]?) → w1.heap.size = W.heap.size → (∀ B, B ≤ g → Below B W w1) → K a w1) : if Region.wanted o (yielded ops a.tmps) = true then Oper.wp P o a W K Q else K (a.put o.dst undef) W := by
  have hrun := run_store_run (P := P) (w := W) (o := k) t u seg.toList hh hu (by rw [ht, Array.length_toList]) (by rw [Array.length_toList]; omega) h1
  obtain ⟨cur', h3, h4, h5⟩ := setCells_row seg.toList k W cur hh (by rw [Array.length_toList]; omega)
  have e5 : cur' = new := by
    apply Array.ext'
    rw [h5, ← hnew]
  rw [e5] at h3
  obtain ⟨s1, s2, s3, s4⟩ := setCells_same g seg.toList k W
  rw [if_pos hw]
  have hr : (execOp a.eval o).run P W = .ok .skip (W.setCells g k seg.toList) := by
    simp only [execOp, ho, hp, hv]
    simp [hrun, Result.andThen]
  unfold Oper.wp
  rw [hr]
  show K (a.put o.dst undef) (W.setCells g k seg.toList)
  rw [hN]
  exact h _ h3 (fun i hi => setCells_far _ _ _ hi) s4 (fun B hB => ⟨s1, s2, s3, by rw [s4]; exact Nat.le_refl _, fun i hi => setCells_far _ _ _ (by omega)⟩)
end
end Go.Proofs.YteefneemmdfncaaDoorW.PrintAll
/- why.by's parts in the form a drawn region asks for: whos, whats, a way. PB, PC, PE, Px come first, with Da in the place of PA. Conditions: each theorem's own. -/
namespace Go.Proofs.YteefneemmdfncaaDoor.M
open Go.RowKit Go.Proofs.YteefneemmdfncaaDoorW.Raw Go.Proofs.YteefneemmdfncaaDoorW.PrintWords Go.Proofs.YteefneemmdfncaaDoorW.PrintLast Go.Proofs.YteefneemmdfncaaDoorW.PrintAll Go.Proofs.YteefneemmdfncaaDoor.F
set_option linter.unusedVariables false
set_option linter.unusedSimpArgs false
/-- A list of pairs that reads as it must. -/
def PaV (l : List S97) (v : Value) (W : World) : Prop := ∃ A c, v = .slice A l.length c ∧ l.length ≤ c ∧ Kd.C k97 W A l.length l
/-- A list of texts that reads as it must. -/
def SsV (l : List ByteArray) (v : Value) (W : World) : Prop := ∃ A c, v = .slice A l.length c ∧ l.length ≤ c ∧ Kd.C Kd.string W A l.length l
theorem PaV.mono {l : List S97} {v : Value} {W W' : World} (h : PaV l v W) (hb : Below W.heap.size W W') : PaV l v W' := by
  obtain ⟨A, c, e, h1, h⟩ := h
  exact ⟨A, c, e, h1, Kd.C_below h hb⟩
theorem SsV.mono {l : List ByteArray} {v : Value} {W W' : World} (h : SsV l v W) (hb : Below W.heap.size W W') : SsV l v W' := by
  obtain ⟨A, c, e, h1, h⟩ := h
  exact ⟨A, c, e, h1, Kd.C_below h hb⟩
theorem PaV_of {l : List S97} {v : Value} {W : World} {B : Nat} {ok : Nat → Prop} (h : Kd.R k97 97 W B ok v l) : PaV l v W := by
  obtain ⟨A, c, e, h1, h2⟩ := Kd.R_reads h
  exact ⟨A, c, e, h1, h2⟩
theorem whos_v (p : Pol) (C0 : Array Value) (w : World) (hk : k28.K w p C0.toList) (hn : p.f5.length + p.f6.length ≤ 16777215) :
    Calls Tryd.prog 54 #[.agg C0] w fun e W => ∃ v, e = .returned v ∧ PaV (p.f5 ++ p.f6) v W ∧ Below w.heap.size w W :=
  (whos_calls p C0 w hk hn).mono fun e W h => by
    obtain ⟨A, c, he, hR, hb⟩ := h
    exact ⟨_, he, PaV_of hR, hb⟩
theorem whats_v (p : Pol) (C0 : Array Value) (w : World) (hk : k28.K w p C0.toList) (hn : p.f7.length + p.f8.length ≤ 16777215) :
    Calls Tryd.prog 55 #[.agg C0] w fun e W => ∃ v, e = .returned v ∧ PaV (p.f7 ++ p.f8) v W ∧ Below w.heap.size w W :=
  (whats_calls p C0 w hk hn).mono fun e W h => by
    obtain ⟨A, c, he, hR, hb⟩ := h
    exact ⟨_, he, PaV_of hR, hb⟩
end Go.Proofs.YteefneemmdfncaaDoor.M
