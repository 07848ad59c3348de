/- A drawn region of reads inside a fence, in a round of a range over a function too: one walk, in the order of the text. No condition. -/
import Derived.BigQuiet
import Derived.OwnWalkIn
import Derived.OrdersIn
namespace Go.Proofs.YtaeijlkogenblaaW.QuietRound
open Go
set_option linter.unusedVariables false
set_option linter.unusedSimpArgs false
/-- An operation that makes no call and gives a value. -/
def readB : Op → Bool
  | .move _ | .assign _ | .pick _ _ _ | .load _ _ | .binOp _ _ _ _ _ | .unOp _ _ _ | .fieldAddr _ _ _ | .indexAddr _ _ _ | .build _ _ | .extract _ _ => true
  | .call { callee := .builtin .len, .. } => true
  | _ => false
theorem value_of {P : Program} {s : Sem Value} {w w' : World} {x : Next} (h : (do pure (Next.value (← s)) : Sem Next).run P w = .ok x w') : ∃ v, x = .value v := by
  simp only [Sem.run_bind] at h
  cases hs : s.run P w with
  | ok v w1 =>
    rw [hs] at h
    simp [Result.andThen] at h
    exact ⟨v, h.1.symm⟩
  | halt a b => rw [hs] at h; cases h
theorem value_of2 {P : Program} {β : Type} {s : Sem β} {f : β → Value} {w w' : World} {x : Next} (h : (s.run P w).andThen (fun a w1 => Result.ok (Next.value (f a)) w1) = .ok x w') : ∃ v, x = .value v := by
  cases hs : s.run P w with
  | ok v w1 =>
    rw [hs] at h
    simp [Result.andThen] at h
    exact ⟨_, h.1.symm⟩
  | halt a b => rw [hs] at h; cases h
theorem read_value {P : Program} {o : Oper} (ho : readB o.op = true) {ρ : Operand → Value} {w w' : World} {x : Next} (h : (execOp ρ o).run P w = .ok x w') : ∃ v, x = .value v := by
  unfold execOp at h
  unfold readB at ho
  split at ho
  all_goals rename_i hop
  all_goals try rw [hop] at h
  all_goals first
    | (cases ho; done)
    | exact value_of h
    | (simp at h; exact ⟨_, h.1.symm⟩)
    | (simp only [Sem.run_bind, Sem.run_pure] at h; exact value_of2 h)
    | (simp only [resolve, invoke, builtin, Sem.run_bind, Sem.run_pure, Result.andThen_ok] at h; exact value_of h)
theorem read_about {P : Program} {o : Oper} (ho : readB o.op = true) (w : World) (ρ : Operand → Value) : o.about P w ρ = none := by
  unfold Oper.about
  unfold readB at ho
  split at ho
  all_goals rename_i hop
  all_goals try rw [hop]
  all_goals first
    | (cases ho; done)
    | rfl
    | simp [resolve, Target.leads]
theorem read_defer {o : Oper} (ho : readB o.op = true) : ∀ c, o.op ≠ .defer c := by
  intro c h
  rw [h] at ho
  cases ho
section
variable {F : Fence} {n : Nat} {P : Program} {ops : Array Oper} {md : Region.Mode} {C : World → Prop}
theorem wpIn_of_quiet {o : Oper} {a : Act} {K : Act → Prop} {K' : Act → World → Prop} {Q' : Exit → Act → World → Prop} {w : World} (ho : readB o.op = true) (hw : C w) (h : ∀ a w', C w' → K a → K' a w') (hh : o.quiet P a C K) : o.wpIn F n P a w K' Q' := by
  obtain ⟨v, h1, h2⟩ := hh
  have h3 := h1 w hw
  unfold Oper.quietAt at h3
  refine ⟨fun f hf => (by rw [read_about ho] at hf; cases hf), ?_⟩
  rw [Oper.semAt_plain F _ _ (read_defer ho)]
  cases hr : (execOp a.eval o).run P w with
  | ok x w' =>
    obtain ⟨u, rfl⟩ := read_value ho hr
    rw [hr] at h3
    obtain ⟨e1, e2⟩ := h3
    rw [Oper.uponIn_value, e1, e2]
    exact h _ _ hw h2
  | halt x w' => rw [hr] at h3; exact h3.elim
theorem wpOpIn_of_qOp (hr : ∀ o ∈ ops.toList, readB o.op = true) {i : Nat} {a : Act} {K : Act → Prop} {K' : Act → World → Prop} {Q' : Exit → Act → World → Prop} {w : World} (hC : C w) (h : ∀ a w', C w' → K a → K' a w') (hh : qOp P ops C i K a) : wpOpIn F n P ops Q' i K' a w := by
  unfold qOp at hh
  unfold wpOpIn
  split
  · rename_i ho; simp only [ho] at hh; exact h _ _ hC hh
  · rename_i o ho
    have hm : readB o.op = true := hr o (by rw [Array.mem_toList_iff]; exact Array.mem_of_getElem? ho)
    simp only [ho] at hh
    split
    · rename_i hw; simp only [hw, if_true] at hh; exact wpIn_of_quiet hm hC h hh
    · rename_i hw; simp only [hw] at hh; exact ⟨fun f hf => (by rw [read_about hm] at hf; cases hf), h _ _ hC hh⟩
theorem wpAnyIn_of_quiet (hr : ∀ o ∈ ops.toList, readB o.op = true) {Q : Act → Prop} {Q' : Exit → Act → World → Prop} (hQ : ∀ a w, C w → Q a → Q' .normal a w) : ∀ (fuel : Nat) (listed : Array Bool) (a : Act) (w : World), C w →
    wpAnyQ P md ops C Q fuel listed a → wpAnyIn F n P md ops Q' fuel listed a w
  | 0, _, _, _, hw, h => ⟨h.1, hQ _ _ hw h.2⟩
  | fuel + 1, _, _, _, hw, h => ⟨fun h0 => hQ _ _ hw (h.1 h0), fun i hi => wpOpIn_of_qOp hr hw (fun a' w' hw' => wpAnyIn_of_quiet hr hQ fuel _ a' w' hw') (h.2 i hi)⟩
theorem wpIn_region_read {id : Nat} {Q : Exit → Act → World → Prop} {a : Act} {w : World} {l : List Oper} (hm : P.follows .mixedOrders = true) (hB : Region.lexB .any l.toArray = true) (hr : (l.all fun o => readB o.op) = true)
    (h : wpQuiet P l.toArray (fun w' => ∃ n, w' = w.drewN n) (fun a' => ∀ w', (∃ n, w' = w.drewN n) → Q .normal a' w') l a) : (Code.region id l.toArray true).wpIn F n P Q a w := by
  simp only [Region.lexB, Bool.and_eq_true] at hB
  refine wpIn_region_any hm (wpAnyIn_of_quiet (C := fun w' => ∃ n, w' = w.drewN n) (fun o ho => List.all_eq_true.1 hr o (by simpa using ho)) (Q := fun a' => ∀ w', (∃ n, w' = w.drewN n) → Q .normal a' w') (fun _ w' hw' h => h w' hw') _ _ _ _ ⟨1, rfl⟩ ?_)
  have := wpAnyQ_lex (P := P) (C := fun w' => ∃ n, w' = w.drewN n) (md := .any) hB.1 l 0 (Array.replicate l.toArray.size false) a (by simp) (by simpa using hB.2) h
  simpa using this
end
end Go.Proofs.YtaeijlkogenblaaW.QuietRound
