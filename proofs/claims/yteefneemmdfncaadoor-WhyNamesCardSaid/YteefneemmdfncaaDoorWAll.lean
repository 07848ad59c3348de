import Derived.Test.YteefneemmdfncaaDoorWTab
import Derived.Test.YteefneemmdfncaaDoorWSq
import Derived.Test.YteefneemmdfncaaDoorWMap
/- A region that draws its order, walked once for each operation: F, of what has come up, of the values that it gave and of the world, is kept by each operation in whatever order they come. No condition. -/
namespace Go.Proofs.YteefneemmdfncaaDoorW.PrintAll
open Go.RowKit Go.Proofs.YteefneemmdfncaaDoorW.PrintWords Go.Proofs.YteefneemmdfncaaDoorW.PrintLast
set_option linter.unusedVariables false
section
variable {P : Program} {ops : Array Oper} {Q : Exit → Act → World → Prop} {md : Region.Mode}
def upd {α : Type} (f : Nat → α) (i : Nat) (v : α) : Nat → α := fun j => if j = i then v else f j
theorem upd_same {α : Type} (f : Nat → α) (i : Nat) (v : α) : upd f i v i = v := if_pos rfl
theorem upd_other {α : Type} (f : Nat → α) {i j : Nat} (v : α) (h : j ≠ i) : upd f i v j = f j := if_neg h
theorem ready_false {l : Array Bool} {i : Nat} (h : i ∈ Region.ready md ops l) : i < ops.size ∧ l.getD i true = false := by
  unfold Region.ready at h
  rw [List.mem_filter] at h
  obtain ⟨h1, h2⟩ := h
  rw [Bool.and_eq_true] at h2
  exact ⟨List.mem_range.1 h1, by simpa using h2.1⟩
theorem count_set_lt {l : Array Bool} {i : Nat} (h : l.getD i true = false) : (l.setIfInBounds i true).toList.count false + 1 = l.toList.count false := by
  have hi : i < l.size := by
    rcases Nat.lt_or_ge i l.size with h' | h'
    · exact h'
    · simp [Array.getD, Nat.not_lt.2 h'] at h
  have hv : l.toList[i]'(by simpa using hi) = false := by simpa [Array.getD, hi] using h
  have h0 : 0 < l.toList.count false := List.count_pos_iff.2 (hv ▸ List.getElem_mem _)
  have h1 := List.count_set (a := true) (b := false) (l := l.toList) (i := i) (by simpa using hi)
  rw [hv] at h1
  rw [Array.toList_setIfInBounds, h1, if_pos (by decide), if_neg (by decide)]
  omega
theorem wpAny_inv (Inv : Array Bool → Act → World → Prop)
    (hstep : ∀ l a w i, l.size = ops.size → Inv l a w → i ∈ Region.ready md ops l → wpOp P ops Q i (fun a' w' => Inv (l.setIfInBounds i true) a' w') a w)
    (hdone : ∀ l a w, l.size = ops.size → Inv l a w → Region.ready md ops l = [] → Q .normal a w) :
    ∀ fuel l a w, l.size = ops.size → l.toList.count false ≤ fuel → Inv l a w → wpAny P md ops Q fuel l a w := by
  intro fuel
  induction fuel with
  | zero =>
    intro l a w hs hc hi
    have hr : Region.ready md ops l = [] := List.eq_nil_iff_forall_not_mem.2 fun i hm => by
      have := count_set_lt (ready_false hm).2
      omega
    exact ⟨hr, hdone l a w hs hi hr⟩
  | succ fuel ih =>
    intro l a w hs hc hi
    refine ⟨fun hr => hdone l a w hs hi hr, fun i hm => wpOp_mono (fun a' w' h => ih _ a' w' (by simpa using hs) ?_ h) (hstep l a w i hs hi hm)⟩
    have := count_set_lt (ready_false hm).2
    omega
/-- The act, with the values of a region's operations laid in. -/
def putZ (a : Act) : List (Option Tmp) → Nat → (Nat → Value) → Act
  | [], _, _ => a
  | n :: r, j, xs => putZ (a.put n (xs j)) r (j + 1) xs
theorem put_comm (a : Act) {n m : Option Tmp} (x y : Value) (h : n = none ∨ n ≠ m) : (a.put n x).put m y = (a.put m y).put n x := by
  cases n with
  | none => rfl
  | some n =>
    cases m with
    | none => rfl
    | some m =>
      have hnm : n ≠ m := by
        rcases h with h | h
        · cases h
        · exact fun e => h (by rw [e])
      simp only [Act.put]
      rw [Array.setIfInBounds_comm _ _ hnm]
theorem put_again (a : Act) (n : Option Tmp) (x y : Value) : (a.put n x).put n y = a.put n y := by
  cases n with
  | none => rfl
  | some n => simp only [Act.put, Array.setIfInBounds_setIfInBounds]
theorem putZ_far (m : Option Tmp) (v : Value) (xs : Nat → Value) : ∀ (ns : List (Option Tmp)) (a : Act) (k : Nat), (m = none ∨ m ∉ ns) → (putZ a ns k xs).put m v = putZ (a.put m v) ns k xs
  | [], _, _, _ => rfl
  | n :: r, a, k, h => by
    show (putZ (a.put n (xs k)) r (k + 1) xs).put m v = putZ ((a.put m v).put n (xs k)) r (k + 1) xs
    rw [putZ_far m v xs r _ _ (h.imp id fun h => fun e => h (List.mem_cons_of_mem _ e))]
    congr 1
    exact (put_comm a v (xs k) (h.imp id fun h => fun e => h (by rw [e]; exact List.mem_cons_self ..))).symm
theorem putZ_congr {xs ys : Nat → Value} : ∀ (ns : List (Option Tmp)) (a : Act) (k : Nat), (∀ j, k ≤ j → xs j = ys j) → putZ a ns k xs = putZ a ns k ys
  | [], _, _, _ => rfl
  | n :: r, a, k, h => by
    show putZ (a.put n (xs k)) r (k + 1) xs = putZ (a.put n (ys k)) r (k + 1) ys
    rw [h k (Nat.le_refl _)]
    exact putZ_congr r _ _ fun j hj => h j (by omega)
/-- No two operations give a value to one slot. -/
def apartB : List (Option Tmp) → Bool
  | [] => true
  | none :: r => apartB r
  | some n :: r => !r.contains (some n) && apartB r
theorem putZ_put (v : Value) (xs : Nat → Value) : ∀ (ns : List (Option Tmp)) (a : Act) (k i : Nat) (m : Option Tmp), apartB ns = true → k ≤ i → ns[i - k]? = some m → (putZ a ns k xs).put m v = putZ a ns k (upd xs i v)
  | [], _, _, _, _, _, _, h => by simp at h
  | n :: r, a, k, i, m, hn, hki, h => by
    show (putZ (a.put n (xs k)) r (k + 1) xs).put m v = putZ (a.put n (upd xs i v k)) r (k + 1) (upd xs i v)
    by_cases e : i = k
    · subst e
      rw [Nat.sub_self] at h
      have hm : n = m := by simpa using h
      subst hm
      rw [upd_same]
      rw [putZ_far n v xs r _ _ (by
        cases n with
        | none => exact .inl rfl
        | some n =>
          right
          simp only [apartB, Bool.and_eq_true] at hn
          intro hm
          rw [List.contains_iff_mem.2 hm] at hn
          exact absurd hn.1 (by decide)), put_again]
      exact putZ_congr r _ _ fun j hj => (upd_other xs v (by omega)).symm
    · have h2 : i - k = (i - (k + 1)) + 1 := by omega
      rw [h2, List.getElem?_cons_succ] at h
      rw [upd_other xs v (fun e2 => e e2.symm)]
      refine putZ_put v xs r _ (k + 1) i m ?_ (by omega) h
      cases n with
      | none => exact hn
      | some n =>
        simp only [apartB, Bool.and_eq_true] at hn
        exact hn.2
theorem put_own (a : Act) (n : Option Tmp) : ∃ v, a.put n v = a := by
  cases n with
  | none => exact ⟨undef, rfl⟩
  | some n =>
    refine ⟨a.tmps.getD n undef, ?_⟩
    simp only [Act.put]
    congr 1
    apply Array.ext
    · simp
    · intro i h1 h2
      rw [Array.getElem_setIfInBounds (by simpa using h2)]
      split
      · rename_i e
        subst e
        simp [Array.getD, h2]
      · rfl
theorem putZ_own : ∀ (ns : List (Option Tmp)) (a : Act) (k : Nat), ∃ xs, putZ a ns k xs = a
  | [], _, _ => ⟨fun _ => undef, rfl⟩
  | n :: r, a, k => by
    obtain ⟨v, hv⟩ := put_own a n
    obtain ⟨xs, hxs⟩ := putZ_own r a (k + 1)
    refine ⟨upd xs k v, ?_⟩
    show putZ (a.put n (upd xs k v k)) r (k + 1) (upd xs k v) = a
    rw [upd_same, hv, putZ_congr r a (k + 1) (ys := xs) fun j hj => upd_other xs v (by omega)]
    exact hxs
def AllOn (l : Nat → Bool) : List Nat → Prop
  | [] => True
  | j :: r => l j = true ∧ AllOn l r
theorem allOn_of {l : Nat → Bool} : ∀ {js : List Nat}, (∀ j ∈ js, l j = true) → AllOn l js
  | [], _ => trivial
  | j :: r, h => ⟨h j (List.mem_cons_self ..), allOn_of fun k hk => h k (List.mem_cons_of_mem _ hk)⟩
def needsAt (T : List (List Nat × List Nat)) (i : Nat) : List Nat := ((T[i]?).map (·.1)).getD []
/-- What is owed for the operation i. -/
def StepAt (P : Program) (ops : Array Oper) (Q : Exit → Act → World → Prop) (T : List (List Nat × List Nat)) (a : Act) (F : (Nat → Bool) → (Nat → Value) → World → Prop) (i : Nat) : Prop :=
  ∀ o, ops[i]? = some o → ∀ l xs w, F l xs w → l i = false → AllOn l (needsAt T i) → ∀ K : Act → World → Prop,
    Shut (∀ v w', F (upd l i true) (upd xs i v) w' → K ((putZ a (ops.toList.map (·.dst)) 0 xs).put o.dst v) w') →
    if Region.wanted o (yielded ops (putZ a (ops.toList.map (·.dst)) 0 xs).tmps) = true then Oper.wp P o (putZ a (ops.toList.map (·.dst)) 0 xs) w K Q else K ((putZ a (ops.toList.map (·.dst)) 0 xs).put o.dst undef) w
def AllUp (p : Nat → Prop) : Nat → Nat → Prop
  | _, 0 => True
  | k, n + 1 => p k ∧ AllUp p (k + 1) n
theorem allUp_at {p : Nat → Prop} : ∀ {n k : Nat}, AllUp p k n → ∀ i, k ≤ i → i < k + n → p i
  | 0, _, _, i, h1, h2 => by omega
  | n + 1, k, h, i, h1, h2 => by
    by_cases e : i = k
    · subst e; exact h.1
    · exact allUp_at h.2 i (by omega) (by omega)
/-- Each operation waits for elder ones alone. -/
def elderB (T : List (List Nat × List Nat)) : Bool := (List.range T.length).all fun i => (needsAt T i).all fun j => decide (j < i)
theorem region_inv {id : Nat} {a : Act} {w : World} {T : Bool × List (List Nat × List Nat)} (n : Nat) (hm : P.follows .mixedOrders = true) (hn : ops.size = n) (hT : rtab .any ops = T) (hE : elderB T.2 = true) (hA : apartB (ops.toList.map (·.dst)) = true)
    (F : (Nat → Bool) → (Nat → Value) → World → Prop) (h0 : ∀ xs, F (fun _ => false) xs w.drew) (hF : ∀ {l l' : Nat → Bool} {xs w'}, (∀ j, j < n → l j = l' j) → F l xs w' → F l' xs w') (hsteps : AllUp (StepAt P ops Q T.2 a F) 0 n)
    (hdone : ∀ xs w', F (fun _ => true) xs w' → Q .normal (putZ a (ops.toList.map (·.dst)) 0 xs) w') : (Code.region id ops true).wp P Q a w := by
  subst hn
  refine wp_region_any hm ?_
  refine wpAny_inv (fun l a' w' => ∃ xs, a' = putZ a (ops.toList.map (·.dst)) 0 xs ∧ F (fun j => l.getD j false) xs w') ?_ ?_ _ _ _ _ (by simp) (by simp) ?_
  · rintro l a' w' i hs ⟨xs, rfl, hF1⟩ hr
    have hi := (ready_false hr).1
    have ho : ops[i]? = some ops[i] := Array.getElem?_eq_getElem hi
    have hl : l.getD i false = false := by
      have := (ready_false hr).2
      simp [Array.getD, hs, hi] at this ⊢
      exact this
    have hneed : ∀ j ∈ needsAt T.2 i, l.getD j false = true := by
      have h1 : readyAt (rtab .any ops).2 l.toList i = true := by
        rw [ready_eq, readyT, List.mem_filter] at hr
        exact hr.2
      rw [hT, readyAt, Bool.and_eq_true] at h1
      have h2 := h1.2
      unfold needsAt
      cases hq : T.2[i]? with
      | none => rw [hq] at h2; cases h2
      | some r =>
        rw [hq] at h2
        intro j hj
        have := List.all_eq_true.1 h2 j hj
        rw [gd]
        exact this
    refine wpOp_step ho fun K hK => ?_
    refine allUp_at hsteps i (Nat.zero_le _) (by omega) _ ho (fun j => l.getD j false) xs w' hF1 hl (allOn_of hneed) K (fun v w2 h2 => hK _ _ ⟨upd xs i v, ?_, ?_⟩)
    · exact putZ_put v xs _ a 0 i _ hA (Nat.zero_le _) (by simp [ho])
    · refine hF (fun j hj => ?_) h2
      unfold upd
      by_cases e : j = i
      · subst e
        simp [Array.getD, hs, hi]
      · rw [if_neg e]
        show l.getD j false = (l.setIfInBounds i true).getD j false
        rw [gd, gd, Array.toList_setIfInBounds]
        simp [List.getD_eq_getElem?_getD, List.getElem?_set_ne (fun e2 => e e2.symm : i ≠ j)]
  · rintro l a' w' hs ⟨xs, rfl, hF1⟩ hr
    refine hdone xs w' (hF (fun j hj => ?_) hF1)
    have key : ∀ m j, j < m → j < ops.size → l.getD j false = true := by
      intro m
      induction m with
      | zero => intro j hj; omega
      | succ m ih =>
        intro j hjm hj
        by_cases hlt : j < m
        · exact ih j hlt hj
        · obtain rfl : j = m := by omega
          cases hq : l.getD j false with
          | true => rfl
          | false =>
            exfalso
            have hTl : T.2.length = ops.size := by rw [← hT]; exact rtab_length
            have hx : j ∈ Region.ready .any ops l := by
              rw [ready_eq, readyT, List.mem_filter, hT]
              refine ⟨List.mem_range.2 (by rw [hTl]; exact hj), ?_⟩
              unfold readyAt
              rw [Bool.and_eq_true]
              constructor
              · rw [← gd]
                simp [Array.getD, hs, hj] at hq ⊢
                exact hq
              · have h3 : T.2[j]? = some (T.2[j]'(by omega)) := List.getElem?_eq_getElem (by omega)
                rw [h3]
                show List.all _ _ = true
                rw [List.all_eq_true]
                intro k hk
                have h4 := List.all_eq_true.1 hE j (List.mem_range.2 (by omega))
                have h5 := List.all_eq_true.1 h4 k (by unfold needsAt; rw [h3]; exact hk)
                have h6 : k < j := by simpa using h5
                rw [← gd]
                exact ih k h6 (by omega)
            rw [hr] at hx
            cases hx
    exact key (j + 1) j (by omega) hj
  · obtain ⟨xs, hxs⟩ := putZ_own (ops.toList.map (·.dst)) a 0
    refine ⟨xs, hxs.symm, hF (fun j hj => ?_) (h0 xs)⟩
    simp [Array.getD, hj]
/-- The same, of the operation only what it does is known. -/
theorem step_op {T : List (List Nat × List Nat)} {a : Act} {F : (Nat → Bool) → (Nat → Value) → World → Prop} {i : Nat} (op : Op) (dst : Option Tmp) (js : List Nat) (ns : List (Option Tmp)) (hx : (ops[i]?).map (fun o => (o.op, o.dst, o.guard)) = some (op, dst, none)) (hj : needsAt T i = js) (hns : ops.toList.map (·.dst) = ns)
    (h : ∀ o, o.op = op → o.dst = dst → (∀ y, Region.wanted o y = true) → ∀ l xs w, F l xs w → l i = false → AllOn l js → ∀ K : Act → World → Prop, Shut (∀ v w', F (upd l i true) (upd xs i v) w' → K ((putZ a ns 0 xs).put dst v) w') →
      if Region.wanted o (yielded ops (putZ a ns 0 xs).tmps) = true then Oper.wp P o (putZ a ns 0 xs) w K Q else K ((putZ a ns 0 xs).put dst undef) w) : StepAt P ops Q T a F i := by
  intro o ho l xs w hF hl hn K hK
  rw [ho] at hx
  injection hx with hx
  injection hx with h1 h2
  injection h2 with h2 h3
  subst hns
  subst hj
  subst h2
  exact h o h1 rfl (fun y => by unfold Region.wanted; rw [h3]) l xs w hF hl hn K hK
theorem put_none (a : Act) (v : Value) : a.put none v = a := rfl
theorem put_size (a : Act) (n : Option Tmp) (v : Value) : (a.put n v).tmps.size = a.tmps.size := by
  cases n with
  | none => rfl
  | some n => simp [Act.put]
theorem eval_put_far (a : Act) (n : Option Tmp) (v : Value) {t : Tmp} (h : n ≠ some t) : (a.put n v).eval (.tmp t) = a.eval (.tmp t) := by
  cases n with
  | none => rfl
  | some n =>
    have : n ≠ t := fun e => h (by rw [e])
    simp [Act.put, Act.eval, Array.getD_eq_getD_getElem?, Array.getElem?_setIfInBounds_ne this]
theorem eval_put_at (a : Act) (v : Value) {t : Tmp} (h : t < a.tmps.size) : (a.put (some t) v).eval (.tmp t) = v := by
  simp [Act.put, Act.eval, Array.getD, h]
theorem eval_far {t : Tmp} (xs : Nat → Value) : ∀ (ns : List (Option Tmp)) (a : Act) (k : Nat), ns.contains (some t) = false → (putZ a ns k xs).eval (.tmp t) = a.eval (.tmp t)
  | [], _, _, _ => rfl
  | n :: r, a, k, h => by
    rw [List.contains_cons, Bool.or_eq_false_iff] at h
    show (putZ (a.put n (xs k)) r (k + 1) xs).eval (.tmp t) = _
    rw [eval_far xs r _ _ h.2]
    exact eval_put_far a n _ (fun e => by rw [e] at h; simp at h)
theorem eval_at {t : Tmp} (xs : Nat → Value) : ∀ (ns : List (Option Tmp)) (a : Act) (k j : Nat), apartB ns = true → k ≤ j → ns[j - k]? = some (some t) → t < a.tmps.size → (putZ a ns k xs).eval (.tmp t) = xs j
  | [], _, _, _, _, _, h, _ => by simp at h
  | n :: r, a, k, j, hA, hk, h, hs => by
    show (putZ (a.put n (xs k)) r (k + 1) xs).eval (.tmp t) = _
    by_cases e : j = k
    · subst e
      rw [Nat.sub_self] at h
      have hm : n = some t := by simpa using h
      subst hm
      have hc : r.contains (some t) = false := by
        simp only [apartB, Bool.and_eq_true] at hA
        simpa using hA.1
      rw [eval_far xs r _ _ hc]
      exact eval_put_at a _ hs
    · have h2 : j - k = (j - (k + 1)) + 1 := by omega
      rw [h2, List.getElem?_cons_succ] at h
      refine eval_at xs r _ (k + 1) j ?_ (by omega) h (by rw [put_size]; exact hs)
      cases n with
      | none => exact hA
      | some n =>
        simp only [apartB, Bool.and_eq_true] at hA
        exact hA.2
/-- The same, from the first operation on. -/
theorem eval_z {t : Tmp} {xs : Nat → Value} {ns : List (Option Tmp)} {a : Act} (j : Nat) (hs : t < a.tmps.size) (hA : apartB ns = true := by kernel_rfl) (h : ns[j]? = some (some t) := by rfl) : (putZ a ns 0 xs).eval (.tmp t) = xs j :=
  eval_at xs ns a 0 j hA (Nat.zero_le _) h hs
theorem eval_o {t : Tmp} {xs : Nat → Value} {ns : List (Option Tmp)} {a : Act} {v : Value} (h : a.eval (.tmp t) = v) (hc : ns.contains (some t) = false := by kernel_rfl) : (putZ a ns 0 xs).eval (.tmp t) = v :=
  (eval_far xs ns a 0 hc).trans h
/-- A store of a whole block, in a region that draws. -/
theorem bstore_step {o : Oper} {a : Act} {K : Act → World → Prop} {W : World} {t e : TypeId} {p : Tmp} {v : Operand} (hw : Region.wanted o (yielded ops a.tmps) = true) (ho : o.op = .store t (.tmp p) v) (hN : o.dst = none) (g : Nat) (cur seg : Array Value) (u : Value)
    (hp : a.eval (.tmp p) = .pointer (some ⟨g, 0, none⟩)) (hv : a.eval v = u) (hu : u.cells.toList = seg.toList) (hh : W.heap[g]? = some (.cells cur e (0, 0))) (ht : (P.info? t).map (·.size) = some seg.size) (hsz : cur.size = seg.size) (h1 : ∀ q ∈ seg.toList, q.oneCell' = true)
    (h : ∀ w1 : World, w1.heap[g]? = some (.cells seg e (0, 0)) → (∀ i, i ≠ g → w1.heap[i]? = W.heap[i]?) → w1.heap.size = W.heap.size → (∀ B, B ≤ g → Below B W w1) → K a w1) : if Region.wanted o (yielded ops a.tmps) = true then Oper.wp P o a W K Q else K (a.put o.dst undef) W := by
  have hrun := run_store_run (P := P) (w := W) (o := 0) t u seg.toList hh hu (by rw [ht, Array.length_toList]) (by rw [Array.length_toList]; omega) h1
  obtain ⟨cur', h3, h4, h5⟩ := setCells_row seg.toList 0 W cur hh (by rw [Array.length_toList]; omega)
  have e5 : cur' = seg := by
    apply Array.ext'
    rw [h5, List.take_zero, List.nil_append, List.drop_of_length_le (by rw [Array.length_toList, Array.length_toList]; omega), List.append_nil]
  rw [e5] at h3
  obtain ⟨s1, s2, s3, s4⟩ := setCells_same g seg.toList 0 W
  rw [if_pos hw]
  have hr : (execOp a.eval o).run P W = .ok .skip (W.setCells g 0 seg.toList) := by
    simp only [execOp, ho, hp, hv]
    simp [hrun, Result.andThen]
  unfold Oper.wp
  rw [hr]
  show K (a.put o.dst undef) (W.setCells g 0 seg.toList)
  rw [hN]
  exact h _ h3 (fun i hi => setCells_far _ _ _ hi) s4 (fun B hB => ⟨s1, s2, s3, by rw [s4]; exact Nat.le_refl _, fun i hi => setCells_far _ _ _ (by omega)⟩)
end
end Go.Proofs.YteefneemmdfncaaDoorW.PrintAll
namespace Go.Proofs.YteefneemmdfncaaDoorW.PrintWords
open Go.RowKit
set_option linter.unusedVariables false
/-- The blocks of these kinds stand as they are. -/
def TS (T : List Nat) (w w' : World) : Prop := ∀ (k q : Nat) (c : Array Value), q ∈ T → w.heap[k]? = some (Obj.cells c q (0, 0)) → w'.heap[k]? = w.heap[k]?
section
variable {T : List Nat} {w w1 w2 : World}
theorem TS.refl (T : List Nat) (w : World) : TS T w w := fun _ _ _ _ _ => rfl
theorem TS.trans (h : TS T w w1) (h2 : TS T w1 w2) : TS T w w2 := fun k q c hq hk => (h2 k q c hq ((h k q c hq hk).trans hk)).trans (h k q c hq hk)
theorem TS.sub {T' : List Nat} (h : TS T w w1) (hs : ∀ q ∈ T', q ∈ T) : TS T' w w1 := fun k q c hq hk => h k q c (hs q hq) hk
theorem TS.below (h : Below w.heap.size w w1) : TS T w w1 := fun k q c _ hk => h.block k (blk_lt hk)
theorem TS.drew : TS T w w.drew := fun _ _ _ _ _ => rfl
theorem TS.alloc (o : Obj) : TS T w (w.alloc o) := TS.below (below_alloc (Below.refl _ _) o)
theorem TS.but {g t : Nat} {cs : Array Value} (hg : w.heap[g]? = some (.cells cs t (0, 0))) (ht : ∀ q ∈ T, q ≠ t) (h : ∀ i, i ≠ g → w1.heap[i]? = w.heap[i]?) : TS T w w1 := fun k q c hq hk => h k (fun e => by
  subst e
  rw [hg] at hk
  injection hk with hk
  injection hk with _ h2 _
  exact ht q hq h2.symm)
theorem TS.set {g t : Nat} {cs : Array Value} (hg : w.heap[g]? = some (.cells cs t (0, 0))) (ht : ∀ q ∈ T, q ≠ t) (j : Nat) (v : Value) : TS T w (w.setCell ⟨g, j, none⟩ v) := TS.but hg ht fun i hi => Below.heap_setCell w _ v i hi
theorem TS.grown {row : Option Nat} {e : Nat} (hg : w.grownBy w1 row) (hr : ∀ k, row = some k → ∃ cs, w.heap[k]? = some (.cells cs e (0, 0))) (ht : ∀ q ∈ T, q ≠ e) : TS T w w1 := fun k q c hq hk => hg.block k (blk_lt hk) (fun e2 => by
  obtain ⟨cs, hcs⟩ := hr k e2.symm
  rw [hcs] at hk
  injection hk with hk
  injection hk with _ h2 _
  exact ht q hq h2.symm)
theorem R_ts {α : Type} {d : Kd α} {e base : Nat} {ok : Nat → Prop} {v : Value} {xs : List α} (h : d.R e w base ok v xs) (hts : TS T w w1) (hT : ∀ q ∈ e :: d.E, q ∈ T) : d.R e w1 base ok v xs :=
  Kd.R_mono (Kd.R_step (Kd.R_bound h) (fun k hk _ => by
    obtain ⟨_, _, _, q, hq, c, hc⟩ := hk
    exact hts k q c (hT q hq) hc)) (fun _ hk => hk.1)
end
end Go.Proofs.YteefneemmdfncaaDoorW.PrintWords
