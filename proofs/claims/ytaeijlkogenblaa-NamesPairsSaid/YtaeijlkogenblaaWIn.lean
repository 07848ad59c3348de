/- A fenced walk's words: look-ups of raw maps, new boxes, stores and loads of whole blocks. No condition. -/
import Derived.Test.YtaeijlkogenblaaWRaw
import Derived.Test.YtaeijlkogenblaaWMap
import Derived.Laws.Rows
import Derived.OwnWalkIn
import Derived.Maps.OwnIn
namespace Go.Proofs.YtaeijlkogenblaaW.PrintWords
open Go.RowKit Go.Proofs.YtaeijlkogenblaaW.Raw
set_option linter.unusedVariables false
section
variable {F : Fence} {nF : Nat} {P : Program} {ops : Array Oper} {rest : List Oper} {o : Oper} {a : Act} {Q : Exit → Act → World → Prop} {W : World}
/-- Whatever operation whose run is known to give a value. -/
theorem event_in {v : Value} {w1 : World} (hg : o.guard = none) (hc : ∀ c, o.op ≠ .defer c) (ha : o.about P W a.eval = none) (hrun : (execOp a.eval o).run P W = .ok (.value v) w1) (h : wpListIn F nF P ops Q rest (a.put o.dst v) w1) : wpListIn F nF P ops Q (o :: rest) a W := by
  refine wpListIn_plain hg fun K' hK' => ?_
  unfold Oper.wpIn
  refine ⟨fun f hf => (by rw [ha] at hf; cases hf), ?_⟩
  rw [Oper.semAt_plain F _ _ hc, hrun, Oper.uponIn_value]
  exact hK' _ _ h
theorem skip_in {w1 : World} (hg : o.guard = none) (hc : ∀ c, o.op ≠ .defer c) (ha : o.about P W a.eval = none) (hrun : (execOp a.eval o).run P W = .ok .skip w1) (h : wpListIn F nF P ops Q rest (a.put o.dst undef) w1) : wpListIn F nF P ops Q (o :: rest) a W := by
  refine wpListIn_plain hg fun K' hK' => ?_
  unfold Oper.wpIn
  refine ⟨fun f hf => (by rw [ha] at hf; cases hf), ?_⟩
  rw [Oper.semAt_plain F _ _ hc, hrun, Oper.uponIn_skip]
  exact hK' _ _ h
theorem look_in {α : Type} {enc : α → Value} {eq : α → α → Bool} {K e t : TypeId} {b : Nat} {xs : List α} {vs : List Value} {z : Value} (hg : o.guard = none) (m x : Operand) (hop : o.op = Op.lookup t m x true) (hK : Key P K enc eq) (ht : P.underlying t = some (.map K e)) (hz : (zeroValue e).run P W = .ok z W)
    (hm : a.eval m = .map (some b)) (h : IsRaw W b (xs.map enc) vs) (k : α) (hx : a.eval x = enc k)
    (hn : wpListIn F nF P ops Q rest (a.put o.dst (.tuple #[lkVal eq z xs vs k, .bool (lkOk eq xs k)])) W) : wpListIn F nF P ops Q (o :: rest) a W := by
  refine event_in hg (by rw [hop]; intro c hc; cases hc) (by simp [Oper.about, hop]) (w1 := W) ?_ hn
  simp [execOp, hop, hm, hx, run_look hK ht hz h, Result.andThen]
theorem gate_in (op : Op) (_ho : o.op = op) (h : wpListIn F nF P ops Q (o :: rest) a W) : wpListIn F nF P ops Q (o :: rest) a W := h
theorem box_in (hg : o.guard = none) {t : TypeId} (ho : o.op = .alloc t) {cs : Array Value} (hrun : (execOp a.eval o).run P W = .ok (.value (.pointer (some ⟨W.heap.size, 0, none⟩))) (W.alloc (.cells cs t (0, 0))))
    (h : ∀ g, g = W.heap.size → ∀ w1, w1.heap[g]? = some (.cells cs t (0, 0)) → Below W.heap.size W w1 → wpListIn F nF P ops Q rest (a.put o.dst (.pointer (some ⟨g, 0, none⟩))) w1) : wpListIn F nF P ops Q (o :: rest) a W :=
  event_in hg (by rw [ho]; intro c hc; cases hc) (by simp [Oper.about, ho]) hrun (h _ rfl _ (blk_new W _) (below_alloc (Below.refl _ _) _))
theorem load_in (hg : o.guard = none) (ty : TypeId) (x : Operand) (ho : o.op = .load ty x) (g : Nat) (hx : a.eval x = .pointer (some ⟨g, 0, none⟩)) (t : TypeId) (cs : Array Value) (fr : Nat × Nat) (d : TypeDesc) (hgc : W.heap[g]? = some (.cells cs t fr))
    (hu : P.underlying ty = some d) (hd : (match d with | .struct _ | .array _ _ => true | _ => false) = true) (hi : (P.info? ty).map (·.size) = some cs.size) (h : wpListIn F nF P ops Q rest (a.put o.dst (.agg cs)) W) : wpListIn F nF P ops Q (o :: rest) a W := by
  refine event_in hg (by rw [ho]; intro c hc; cases hc) (by simp [Oper.about, ho]) (w1 := W) ?_ h
  unfold execOp
  simp only [ho, hx, Instr.loadAt, Instr.sureAddr, Sem.run_bind, Sem.run_pure, Result.andThen_ok, run_loadVar_row W g t ty cs fr d hgc hu hd hi]
theorem bstore_in {t e : TypeId} {p : Tmp} {v : Operand} (hg : o.guard = none) (ho : o.op = .store t (.tmp p) v) (hN : o.dst = none) (g : Nat) (cur seg : Array Value) (u : Value)
    (hp : a.eval (.tmp p) = .pointer (some ⟨g, 0, none⟩)) (hv : a.eval v = u) (hu : u.cells.toList = seg.toList) (hh : W.heap[g]? = some (.cells cur e (0, 0))) (ht : (P.info? t).map (·.size) = some seg.size) (hsz : cur.size = seg.size) (h1 : ∀ q ∈ seg.toList, q.oneCell' = true)
    (h : ∀ w1 : World, w1.heap[g]? = some (.cells seg e (0, 0)) → (∀ i, i ≠ g → w1.heap[i]? = W.heap[i]?) → w1.heap.size = W.heap.size → (∀ B, B ≤ g → Below B W w1) → wpListIn F nF P ops Q rest a w1) : wpListIn F nF P ops Q (o :: rest) a W := by
  have hrun := run_store_run (P := P) (w := W) (o := 0) t u seg.toList hh hu (by rw [ht, Array.length_toList]) (by rw [Array.length_toList]; omega) h1
  obtain ⟨cur', h3, h4, h5⟩ := setCells_row seg.toList 0 W cur hh (by rw [Array.length_toList]; omega)
  have e5 : cur' = seg := by
    apply Array.ext'
    rw [h5, List.take_zero, List.nil_append, List.drop_of_length_le (by rw [Array.length_toList, Array.length_toList]; omega), List.append_nil]
  rw [e5] at h3
  obtain ⟨s1, s2, s3, s4⟩ := setCells_same g seg.toList 0 W
  refine skip_in (w1 := W.setCells g 0 seg.toList) hg (by rw [ho]; intro c hc; cases hc) (by simp [Oper.about, ho]) ?_ ?_
  · simp only [execOp, ho, hp, hv]
    simp [hrun, Result.andThen]
  · rw [hN]
    exact h _ h3 (fun i hi => setCells_far _ _ _ hi) s4 (fun B hB => ⟨s1, s2, s3, by rw [s4]; exact Nat.le_refl _, fun i hi => setCells_far _ _ _ (by omega)⟩)
end
end Go.Proofs.YtaeijlkogenblaaW.PrintWords
