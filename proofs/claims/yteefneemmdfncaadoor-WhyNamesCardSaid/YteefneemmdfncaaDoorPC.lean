import Derived.Test.YteefneemmdfncaaDoorWb
import Derived.Test.YteefneemmdfncaaDoorWa
/- why.whos and why.whats, walked: two lists of pairs, one behind the other. Conditions: the policy reads as it must; the lists are bounded. -/
namespace Go.Proofs.YteefneemmdfncaaDoor.M
open Go.RowKit Go.Proofs.YteefneemmdfncaaDoorW.Raw Go.Proofs.YteefneemmdfncaaDoorW.PrintWords Go.Proofs.YteefneemmdfncaaDoor.F
set_option linter.unusedVariables false
set_option linter.unusedSimpArgs false
set_option maxRecDepth 100000 in
set_option maxHeartbeats 4000000 in
theorem whos_calls (p : Pol) (C0 : Array Value) (w : World) (hk : k28.K w p C0.toList) (hn : p.f5.length + p.f6.length ≤ 16777215) :
    Calls Tryd.prog 54 #[.agg C0] w fun e w' => ∃ A c, e = .returned (.slice A (p.f5 ++ p.f6).length c) ∧ Kd.R k97 97 w' w.heap.size (fun _ => True) (.slice A (p.f5 ++ p.f6).length c) (p.f5 ++ p.f6) ∧ Below w.heap.size w w' := by
  obtain ⟨A0, c0, A1, c1, A2, c2, A3, c3, A4, c4, A5, c5, A6, c6, A7, c7, A8, c8, A9, c9, A10, c10, e_, l0, g0, l1, g1, l2, g2, l3, g3, l4, g4, l5, g5, l6, g6, l7, g7, l8, g8, l9, g9, l10, g10⟩ := k28_open hk
  obtain rfl : C0 = #[.slice A0 p.f0.length c0, .slice A1 p.f1.length c1, .slice A2 p.f2.length c2, .slice A3 p.f3.length c3, .slice A4 p.f4.length c4, .slice A5 p.f5.length c5, .slice A6 p.f6.length c6, .slice A7 p.f7.length c7, .slice A8 p.f8.length c8, .slice A9 p.f9.length c9, .slice A10 p.f10.length c10] := by cases C0; simpa using e_
  clear e_
  have H1 := Lib.hid g5
  have H2 := Lib.hid g6
  have HN := Lib.hid hn
  clear hk l0 g0 l1 g1 l2 g2 l3 g3 l4 g4 l5 g5 l6 g6 l7 g7 l8 g8 l9 g9 l10 g10 hn
  go_enter Tryd.func54, Tryd.ntmps54
  go_upto_region 1 with ((with_reducible refine gate_dst (N := 1) rfl ?_); refine box_event ?hg (N := 1) ?hd (cs := #[.slice A0 p.f0.length c0, .slice A1 p.f1.length c1, .slice A2 p.f2.length c2, .slice A3 p.f3.length c3, .slice A4 p.f4.length c4, .slice A5 p.f5.length c5, .slice A6 p.f6.length c6, .slice A7 p.f7.length c7, .slice A8 p.f8.length c8, .slice A9 p.f9.length c9, .slice A10 p.f10.length c10]) (t := 28) ?hr ?_; (case hd => rfl); (case hg => rfl); (case hr => first | (go_simp; done) | (go_simp; rfl)); intro b2 hg_ w1 hb2 hB1; clear hg_; have d5 := (blk_cell hb2 5).trans (Eq.refl (some (Value.slice A5 p.f5.length c5))); have d6 := (blk_cell hb2 6).trans (Eq.refl (some (Value.slice A6 p.f6.length c6))); have BW1 := Lib.hid hB1; have K2 := Lib.hid hb2; clear hb2 hB1)
  go_wp2_with fail
  obtain ⟨W, hW⟩ : ∃ W, W = w1.alloc (Obj.cells #[Value.slice A5 p.f5.length c5, Value.slice A6 p.f6.length c6] 24) := ⟨_, rfl⟩
  have hrb : W.heap[w1.heap.size]? = some (.cells #[Value.slice A5 p.f5.length c5, Value.slice A6 p.f6.length c6] 24 (0, 0)) := by rw [hW]; exact heap_new _ _
  have hbw : Below w.heap.size w W := by rw [hW]; exact BW1.out.alloc BW1.out.size _
  rw [← hW]
  have HBW := Lib.hid hbw
  have HRB := Lib.hid hrb
  clear hW hbw hrb
  refine (concat_calls _ p.f5 p.f6 A5 A6 c5 c6 W HRB.out (Kd.C_below H1.out HBW.out) (Kd.C_below H2.out HBW.out) (by have := HN.out; omega)).mono ?_
  rintro e W1 ⟨A3, c3, rfl, hR, hB1⟩
  have HR := Lib.hid (Kd.R_lower hR HBW.out.size)
  have HB := Lib.hid (HBW.out.trans (hB1.mono HBW.out.size))
  clear hR hB1
  go_wp2_with fail
  go_ret
  exact ⟨A3, c3, by rw [List.length_append]; rfl, HR.out, HB.out⟩
set_option maxRecDepth 100000 in
set_option maxHeartbeats 4000000 in
theorem whats_calls (p : Pol) (C0 : Array Value) (w : World) (hk : k28.K w p C0.toList) (hn : p.f7.length + p.f8.length ≤ 16777215) :
    Calls Tryd.prog 55 #[.agg C0] w fun e w' => ∃ A c, e = .returned (.slice A (p.f7 ++ p.f8).length c) ∧ Kd.R k97 97 w' w.heap.size (fun _ => True) (.slice A (p.f7 ++ p.f8).length c) (p.f7 ++ p.f8) ∧ Below w.heap.size w w' := by
  obtain ⟨A0, c0, A1, c1, A2, c2, A3, c3, A4, c4, A5, c5, A6, c6, A7, c7, A8, c8, A9, c9, A10, c10, e_, l0, g0, l1, g1, l2, g2, l3, g3, l4, g4, l5, g5, l6, g6, l7, g7, l8, g8, l9, g9, l10, g10⟩ := k28_open hk
  obtain rfl : C0 = #[.slice A0 p.f0.length c0, .slice A1 p.f1.length c1, .slice A2 p.f2.length c2, .slice A3 p.f3.length c3, .slice A4 p.f4.length c4, .slice A5 p.f5.length c5, .slice A6 p.f6.length c6, .slice A7 p.f7.length c7, .slice A8 p.f8.length c8, .slice A9 p.f9.length c9, .slice A10 p.f10.length c10] := by cases C0; simpa using e_
  clear e_
  have H1 := Lib.hid g7
  have H2 := Lib.hid g8
  have HN := Lib.hid hn
  clear hk l0 g0 l1 g1 l2 g2 l3 g3 l4 g4 l5 g5 l6 g6 l7 g7 l8 g8 l9 g9 l10 g10 hn
  go_enter Tryd.func55, Tryd.ntmps55
  go_upto_region 1 with ((with_reducible refine gate_dst (N := 1) rfl ?_); refine box_event ?hg (N := 1) ?hd (cs := #[.slice A0 p.f0.length c0, .slice A1 p.f1.length c1, .slice A2 p.f2.length c2, .slice A3 p.f3.length c3, .slice A4 p.f4.length c4, .slice A5 p.f5.length c5, .slice A6 p.f6.length c6, .slice A7 p.f7.length c7, .slice A8 p.f8.length c8, .slice A9 p.f9.length c9, .slice A10 p.f10.length c10]) (t := 28) ?hr ?_; (case hd => rfl); (case hg => rfl); (case hr => first | (go_simp; done) | (go_simp; rfl)); intro b2 hg_ w1 hb2 hB1; clear hg_; have d5 := (blk_cell hb2 7).trans (Eq.refl (some (Value.slice A7 p.f7.length c7))); have d6 := (blk_cell hb2 8).trans (Eq.refl (some (Value.slice A8 p.f8.length c8))); have BW1 := Lib.hid hB1; have K2 := Lib.hid hb2; clear hb2 hB1)
  go_wp2_with fail
  obtain ⟨W, hW⟩ : ∃ W, W = w1.alloc (Obj.cells #[Value.slice A7 p.f7.length c7, Value.slice A8 p.f8.length c8] 24) := ⟨_, rfl⟩
  have hrb : W.heap[w1.heap.size]? = some (.cells #[Value.slice A7 p.f7.length c7, Value.slice A8 p.f8.length c8] 24 (0, 0)) := by rw [hW]; exact heap_new _ _
  have hbw : Below w.heap.size w W := by rw [hW]; exact BW1.out.alloc BW1.out.size _
  rw [← hW]
  have HBW := Lib.hid hbw
  have HRB := Lib.hid hrb
  clear hW hbw hrb
  refine (concat_calls _ p.f7 p.f8 A7 A8 c7 c8 W HRB.out (Kd.C_below H1.out HBW.out) (Kd.C_below H2.out HBW.out) (by have := HN.out; omega)).mono ?_
  rintro e W1 ⟨A3, c3, rfl, hR, hB1⟩
  have HR := Lib.hid (Kd.R_lower hR HBW.out.size)
  have HB := Lib.hid (HBW.out.trans (hB1.mono HBW.out.size))
  clear hR hB1
  go_wp2_with fail
  go_ret
  exact ⟨A3, c3, by rw [List.length_append]; rfl, HR.out, HB.out⟩
end Go.Proofs.YteefneemmdfncaaDoor.M
/- What is reached along pairs, as a relation; one rule more, one except more, a name that is not there. Conditions: each theorem's own. -/
namespace Go.Proofs.YteefneemmdfncaaDoor.M
open Go.RowKit Go.Proofs.YteefneemmdfncaaDoorW.Raw Go.Proofs.YteefneemmdfncaaDoorW.PrintWords Go.Proofs.YteefneemmdfncaaDoor.F
set_option linter.unusedVariables false
/-- A way leads from a name to a name. -/
inductive Way (ps : List Pair) (a : ByteArray) : ByteArray → Prop
  | here : Way ps a a
  | on {x y : ByteArray} (h : Way ps a x) (hp : ∃ p ∈ ps, p.f0 = x ∧ p.f1 = y) : Way ps a y
theorem rounds_pre (N : ByteArray → List ByteArray) (L0 : List ByteArray) (k d : Nat) : ∃ zs, rounds N L0 (k + d) = rounds N L0 k ++ zs := by
  induction d with
  | zero => exact ⟨[], (List.append_nil _).symm⟩
  | succ d ih =>
    obtain ⟨zs, h⟩ := ih
    show ∃ zs, (match (rounds N L0 (k + d))[k + d]? with | some x => addAll (rounds N L0 (k + d)) (N x) | none => rounds N L0 (k + d)) = _
    cases (rounds N L0 (k + d))[k + d]? with
    | none => exact ⟨zs, h⟩
    | some x =>
      obtain ⟨ys, hy⟩ := addAll_pre (N x) (rounds N L0 (k + d))
      exact ⟨zs ++ ys, by show addAll _ _ = _; rw [hy, h, List.append_assoc]⟩
theorem rounds_nodup (N : ByteArray → List ByteArray) (L0 : List ByteArray) (h : L0.Nodup) (k : Nat) : (rounds N L0 k).Nodup := by
  induction k with
  | zero => exact h
  | succ k ih =>
    show (match (rounds N L0 k)[k]? with | some x => addAll (rounds N L0 k) (N x) | none => rounds N L0 k).Nodup
    cases (rounds N L0 k)[k]? with
    | none => exact ih
    | some x => exact addAll_nodup _ _ ih
theorem upL_len (ps : List Pair) (n : ByteArray) : (upL ps n).length ≤ ps.length + 1 := by
  have := nodup_le (U := n :: ps.map (·.f1)) (rounds_nodup (tos ps) [n] (by simp) (ps.length + 1)) (rounds_in (fun x hx => by rw [List.mem_singleton] at hx; subst hx; exact List.mem_cons_self) (fun x y hy => by
    obtain ⟨p, hp, _, rfl⟩ := tos_mem.1 hy
    exact List.mem_cons_of_mem _ (List.mem_map.2 ⟨p, hp, rfl⟩)) _)
  rw [List.length_cons, List.length_map] at this
  exact this
/-- What is reached is closed. -/
theorem upL_closed {ps : List Pair} {n x y : ByteArray} (hx : x ∈ upL ps n) (hp : ∃ p ∈ ps, p.f0 = x ∧ p.f1 = y) : y ∈ upL ps n := by
  obtain ⟨i, hi⟩ := List.mem_iff_getElem?.1 hx
  have hil := (List.getElem?_eq_some_iff.1 hi).1
  have hl := upL_len ps n
  have hi1 : i < ps.length + 1 := by omega
  obtain ⟨d, hd⟩ : ∃ d, ps.length + 1 = (i + 1) + d := ⟨ps.length - i, by omega⟩
  obtain ⟨zs, h1⟩ := rounds_pre (tos ps) [n] (i + 1) d
  obtain ⟨ws, h2⟩ := rounds_pre (tos ps) [n] i (1 + d)
  have hR : upL ps n = rounds (tos ps) [n] (i + 1) ++ zs := by unfold upL; rw [hd, h1]
  have hR2 : upL ps n = rounds (tos ps) [n] i ++ ws := by unfold upL; rw [hd, Nat.add_assoc, h2]
  by_cases hlt : i < (rounds (tos ps) [n] i).length
  · have hxi : (rounds (tos ps) [n] i)[i]? = some x := by rw [hR2, List.getElem?_append_left hlt] at hi; exact hi
    have hs : rounds (tos ps) [n] (i + 1) = addAll (rounds (tos ps) [n] i) (tos ps x) := by
      show (match (rounds (tos ps) [n] i)[i]? with | some x => addAll (rounds (tos ps) [n] i) (tos ps x) | none => rounds (tos ps) [n] i) = _
      rw [hxi]
    rw [hR, hs]
    exact List.mem_append_left _ ((addAll_mem _ _ _).2 (.inr (tos_mem.2 hp)))
  · have hst := rounds_stay (N := tos ps) (L0 := [n]) (k := i) (by omega) (1 + d)
    have : upL ps n = rounds (tos ps) [n] i := by unfold upL; rw [hd, Nat.add_assoc, hst]
    rw [this] at hil
    omega
theorem upL_first (ps : List Pair) (n : ByteArray) : n ∈ upL ps n := by
  obtain ⟨zs, h⟩ := rounds_pre (tos ps) [n] 0 (ps.length + 1)
  rw [Nat.zero_add] at h
  unfold upL
  rw [h]
  exact List.mem_append_left _ (List.mem_singleton.2 rfl)
theorem mem_upL {ps : List Pair} {n x : ByteArray} : x ∈ upL ps n ↔ Way ps n x := by
  constructor
  · have : ∀ k, ∀ x ∈ rounds (tos ps) [n] k, Way ps n x := by
      intro k
      induction k with
      | zero => intro x hx; rw [show rounds (tos ps) [n] 0 = [n] from rfl, List.mem_singleton] at hx; subst hx; exact .here
      | succ k ih =>
        intro x hx
        unfold rounds at hx
        split at hx
        · rename_i y hy
          rw [addAll_mem] at hx
          rcases hx with hx | hx
          · exact ih x hx
          · exact .on (ih y (List.mem_of_getElem? hy)) (tos_mem.1 hx)
        · exact ih x hx
    exact this _ x
  · intro h
    induction h with
    | here => exact upL_first ps n
    | on _ hp ih => exact upL_closed ih hp
end Go.Proofs.YteefneemmdfncaaDoor.M
