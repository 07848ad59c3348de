/- MeanAllows as the row asks for it: the program's answer is the document's, and what was handed in is untouched. Conditions: each theorem's own. -/
import Derived.Test.YtnkdcekddhmjnaaRoC
import Derived.Test.YtnkdcekddhmjnaaUn
import Derived.Test.YtnkdcekddhmjnaaWAlm
import Derived.Test.YtnkdcekddhmjnaaPN
import Derived.Test.YtnkdcekddhmjnaaF13
import Derived.Test.YtnkdcekddhmjnaaSz
namespace Go.Proofs.Ytnkdcekddhmjnaa.F
open Go.RowKit Go.Proofs.YtnkdcekddhmjnaaW.Raw Go.Proofs.YtnkdcekddhmjnaaW.PrintWords Go.Proofs.YtnkdcekddhmjnaaW.PrintLast Go.Proofs.YtnkdcekddhmjnaaW.PrintAll Go.Proofs.Ytnkdcekddhmjnaa.M
set_option linter.unusedVariables false
set_option linter.unusedSimpArgs false
theorem cf_size {W : World} {q : Pol} {CF : Array Value} (h : k34.K W q CF.toList) : CF.size = 11 := by
  have h2 := k34.K_len h
  rw [Array.length_toList] at h2
  exact h2
theorem room_one {W W2 W3 : World} {B : Nat} {p q : Pol} {CG CF : Array Value} {vl : Value} {ls : List (List ByteArray)} (kg : k34.K W p CG.toList) (kf : k34.K W2 q CF.toList) (kl : Kd.R (Kd.slice 9 Kd.string) 25 W3 B (fun _ => True) vl ls) : ∀ u ∈ (CG ++ CF ++ #[vl]).toList, u.oneCell' = true := by
  intro u hu
  simp only [Array.toList_append, List.mem_append, List.mem_singleton] at hu
  rcases hu with (hu | hu) | hu
  · exact k34.K_one kg u hu
  · exact k34.K_one kf u hu
  · obtain ⟨A, c, rfl⟩ := Kd.R_slice kl
    subst hu
    rfl
theorem refMeanAllows_calls (p : Pol) (C0 : Array Value) (t : Tri) (w : World) (hk : k34.K w p C0.toList) (hs : Sz p) :
    Calls Try.prog 23 #[.agg C0, .agg #[.string t.f0, .string t.f1, .string t.f2]] w fun e w' => e = .returned (.bool (allowsB p t)) ∧ Below w.heap.size w w' := by
  obtain ⟨k, hk2⟩ := rallows_f p t hs
  obtain ⟨A0, c0, A1, c1, A2, c2, A3, c3, A4, c4, A5, c5, A6, c6, A7, c7, A8, c8, A9, c9, A10, c10, e_, l0, g0, l1, g1, l2, g2, l3, g3, l4, g4, l5, g5, l6, g6, l7, g7, l8, g8, l9, g9, l10, g10⟩ := k34_open hk
  obtain rfl : C0 = #[.slice A0 p.f0.length c0, .slice A1 p.f1.length c1, .slice A2 p.f2.length c2, .slice A3 p.f3.length c3, .slice A4 p.f4.length c4, .slice A5 p.f5.length c5, .slice A6 p.f6.length c6, .slice A7 p.f7.length c7, .slice A8 p.f8.length c8, .slice A9 p.f9.length c9, .slice A10 p.f10.length c10] := by cases C0; simpa using e_
  clear e_
  exact gatehouseref08_Allows.calls k A0 c0 p.f0 A1 c1 p.f1 A2 c2 p.f2 A3 c3 p.f3 A4 c4 p.f4 A5 c5 p.f5 A6 c6 p.f6 A7 c7 p.f7 A8 c8 p.f8 A9 c9 p.f9 A10 c10 p.f10 t.f0 t.f1 t.f2 _ w g0 l0 g1 l1 g2 l2 g3 l3 g4 l4 g5 l5 g6 l6 g7 l7 g8 l8 g9 l9 g10 l10 (hk2 k (Nat.le_refl _))
abbrev WqA.ns : List (Option Tmp) := [some 8, some 9, some 10, some 11, some 12, some 13, some 14, some 15, some 16, some 17, some 18, some 19, some 20, some 4]
def WqA.T : Bool × List (List Nat × List Nat) := (true, [([], []), ([0], [0]), ([], []), ([1, 2], [1, 2]), ([], []), ([], []), ([4, 5, 3], [4, 5]), ([3, 6], [3, 6]), ([7, 6], [7]), ([8], [8]), ([8], [8]), ([9, 10, 8, 8], [8, 9, 10]), ([8, 11], [8, 11]), ([12, 11, 0, 1, 2, 3, 4, 5, 6, 7, 8, 9, 10, 11, 12], [12])])
theorem WqA.tab : rtab .any (opsOf Try.f6 2) = WqA.T := by kernel_rfl
def WqA.V (C0 CG CF : Array Value) (vl : Value) (CT : Array Value) (ans : Value) (b7 : Nat) : Nat → Value
  | 0 => .pointer (some ⟨b7, 0, none⟩)
  | 1 => .agg CG
  | 2 => .agg CT
  | 3 => ans
  | 4 => .agg C0
  | 5 => .agg CT
  | 6 => ans
  | 7 => .bool true
  | 8 => .bool true
  | 9 => .agg (CG ++ CF ++ #[vl])
  | 10 => .agg C0
  | 11 => .bool true
  | 12 => .bool true
  | 13 => .bool true
  | _ => undef
set_option maxRecDepth 100000 in
set_option maxHeartbeats 2000000 in
theorem WqA.region {Q : Exit → Act → World → Prop} {id : Nat} {a : Act} {w : World} (p : Pol) (t : Tri) {b3 b5 b7 : Nat} (CG CF : Array Value) (vl : Value) {A0 : Option Addr} {c0 : Nat} {A1 : Option Addr} {c1 : Nat} {A2 : Option Addr} {c2 : Nat} {A3 : Option Addr} {c3 : Nat} {A4 : Option Addr} {c4 : Nat} {A5 : Option Addr} {c5 : Nat} {A6 : Option Addr} {c6 : Nat} {A7 : Option Addr} {c7 : Nat} {A8 : Option Addr} {c8 : Nat} {A9 : Option Addr} {c9 : Nat} {A10 : Option Addr} {c10 : Nat} (B : Nat) (hm : Try.prog.follows .mixedOrders = true) (hs : a.tmps.size = 21)
    (hx2 : a.eval (.tmp 2) = .pointer (some ⟨b3, 0, none⟩)) (hx3 : a.eval (.tmp 3) = .pointer (some ⟨b5, 0, none⟩)) (h7 : a.eval (.tmp 5) = .pointer (some ⟨b7, 0, none⟩))
    (hb2 : w.heap[b3]? = some (Obj.cells #[.slice A0 p.f0.length c0, .slice A1 p.f1.length c1, .slice A2 p.f2.length c2, .slice A3 p.f3.length c3, .slice A4 p.f4.length c4, .slice A5 p.f5.length c5, .slice A6 p.f6.length c6, .slice A7 p.f7.length c7, .slice A8 p.f8.length c8, .slice A9 p.f9.length c9, .slice A10 p.f10.length c10] 34 (0, 0))) (hb3 : w.heap[b5]? = some (Obj.cells #[.string t.f0, .string t.f1, .string t.f2] 36 (0, 0))) (hb7 : w.heap[b7]? = some (Obj.cells (CG ++ CF ++ #[vl]) 39 (0, 0)))
    (kp : k34.K w p #[.slice A0 p.f0.length c0, .slice A1 p.f1.length c1, .slice A2 p.f2.length c2, .slice A3 p.f3.length c3, .slice A4 p.f4.length c4, .slice A5 p.f5.length c5, .slice A6 p.f6.length c6, .slice A7 p.f7.length c7, .slice A8 p.f8.length c8, .slice A9 p.f9.length c9, .slice A10 p.f10.length c10].toList) (kg : k34.K w p CG.toList) (kf : k34.K w (fullP p) CF.toList) (kl : Kd.R (Kd.slice 9 Kd.string) 25 w B (fun _ => True) vl (actsM p.f9)) (hz : Sz p)
    (hdone : ∀ (V : Nat → Value) (W : World), Below w.heap.size w W → V 13 = .bool true → Q .normal (putZ a WqA.ns 0 V) W) :
    (Code.region id (opsOf Try.f6 2) true).wp Try.prog Q a w := by
  obtain ⟨Y0, d0, Y1, d1, Y2, d2, Y3, d3, Y4, d4, Y5, d5, Y6, d6, Y7, d7, Y8, d8, Y9, d9, Y10, d10, eg_, -⟩ := k34_open kg
  obtain rfl : CG = #[.slice Y0 p.f0.length d0, .slice Y1 p.f1.length d1, .slice Y2 p.f2.length d2, .slice Y3 p.f3.length d3, .slice Y4 p.f4.length d4, .slice Y5 p.f5.length d5, .slice Y6 p.f6.length d6, .slice Y7 p.f7.length d7, .slice Y8 p.f8.length d8, .slice Y9 p.f9.length d9, .slice Y10 p.f10.length d10] := by cases CG; simpa using eg_
  clear eg_
  have hsz : ∀ t, t < 21 → t < a.tmps.size := fun t ht => by rw [hs]; exact ht
  have hcel : ∀ W, Below w.heap.size w W → W.cell? ⟨b7, 0, none⟩ = some (.slice Y0 p.f0.length d0) ∧ W.cell? ⟨b7, 1, none⟩ = some (.slice Y1 p.f1.length d1) ∧ W.cell? ⟨b7, 2, none⟩ = some (.slice Y2 p.f2.length d2) ∧ W.cell? ⟨b7, 3, none⟩ = some (.slice Y3 p.f3.length d3) ∧ W.cell? ⟨b7, 4, none⟩ = some (.slice Y4 p.f4.length d4) ∧ W.cell? ⟨b7, 5, none⟩ = some (.slice Y5 p.f5.length d5) ∧ W.cell? ⟨b7, 6, none⟩ = some (.slice Y6 p.f6.length d6) ∧ W.cell? ⟨b7, 7, none⟩ = some (.slice Y7 p.f7.length d7) ∧ W.cell? ⟨b7, 8, none⟩ = some (.slice Y8 p.f8.length d8) ∧ W.cell? ⟨b7, 9, none⟩ = some (.slice Y9 p.f9.length d9) ∧ W.cell? ⟨b7, 10, none⟩ = some (.slice Y10 p.f10.length d10) := fun W hW => ⟨(blk_cell (blk_below hb7 hW) 0).trans (by simp [Array.getElem?_append]), (blk_cell (blk_below hb7 hW) 1).trans (by simp [Array.getElem?_append]), (blk_cell (blk_below hb7 hW) 2).trans (by simp [Array.getElem?_append]), (blk_cell (blk_below hb7 hW) 3).trans (by simp [Array.getElem?_append]), (blk_cell (blk_below hb7 hW) 4).trans (by simp [Array.getElem?_append]), (blk_cell (blk_below hb7 hW) 5).trans (by simp [Array.getElem?_append]), (blk_cell (blk_below hb7 hW) 6).trans (by simp [Array.getElem?_append]), (blk_cell (blk_below hb7 hW) 7).trans (by simp [Array.getElem?_append]), (blk_cell (blk_below hb7 hW) 8).trans (by simp [Array.getElem?_append]), (blk_cell (blk_below hb7 hW) 9).trans (by simp [Array.getElem?_append]), (blk_cell (blk_below hb7 hW) 10).trans (by simp [Array.getElem?_append])⟩
  refine region_const (T := WqA.T) 14 (WqA.V #[.slice A0 p.f0.length c0, .slice A1 p.f1.length c1, .slice A2 p.f2.length c2, .slice A3 p.f3.length c3, .slice A4 p.f4.length c4, .slice A5 p.f5.length c5, .slice A6 p.f6.length c6, .slice A7 p.f7.length c7, .slice A8 p.f8.length c8, .slice A9 p.f9.length c9, .slice A10 p.f10.length c10] #[.slice Y0 p.f0.length d0, .slice Y1 p.f1.length d1, .slice Y2 p.f2.length d2, .slice Y3 p.f3.length d3, .slice Y4 p.f4.length d4, .slice Y5 p.f5.length d5, .slice Y6 p.f6.length d6, .slice Y7 p.f7.length d7, .slice Y8 p.f8.length d8, .slice Y9 p.f9.length d9, .slice Y10 p.f10.length d10] CF vl #[.string t.f0, .string t.f1, .string t.f2] (.bool (allowsB p t)) b7) hm (by kernel_rfl) WqA.tab (by kernel_rfl) (by kernel_rfl) ?steps ?done
  case done =>
    intro W hW
    exact hdone _ W hW rfl
  case steps =>
    refine ⟨?_, ?_, ?_, ?_, ?_, ?_, ?_, ?_, ?_, ?_, ?_, ?_, ?_, ?_, trivial⟩
    · refine step_op (Op.fieldAddr 39 (.tmp 5) 0) (some 8) [] WqA.ns (by kernel_rfl) rfl (by kernel_rfl) (fun o ho hd hw l xs W hF hl hn K hK => ?_)
      have e1 := eval_o (xs := xs) (ns := WqA.ns) h7
      exact value_ (v := .pointer (some ⟨b7, 0, none⟩)) (hw _) hd (w1 := W) (by simp only [execOp, ho, e1]; go_simp) (hK.out _ _ (hF.now rfl))
    · refine step_op (Op.load 34 (.tmp 8)) (some 9) [0] WqA.ns (by kernel_rfl) rfl (by kernel_rfl) (fun o ho hd hw l xs W hF hl hn K hK => ?_)
      have e1 := hF.at (ns := WqA.ns) (a := a) (t := 8) 0 (hn.1) (hsz 8 (by decide))
      obtain ⟨q0, q1, q2, q3, q4, q5, q6, q7, q8, q9, q10⟩ := hcel W hF.1
      replace e1 : (putZ a WqA.ns 0 xs).eval (.tmp 8) = .pointer (some ⟨b7, 0, none⟩) := e1
      exact value_ (v := .agg #[.slice Y0 p.f0.length d0, .slice Y1 p.f1.length d1, .slice Y2 p.f2.length d2, .slice Y3 p.f3.length d3, .slice Y4 p.f4.length d4, .slice Y5 p.f5.length d5, .slice Y6 p.f6.length d6, .slice Y7 p.f7.length d7, .slice Y8 p.f8.length d8, .slice Y9 p.f9.length d9, .slice Y10 p.f10.length d10]) (hw _) hd (w1 := W) (by simp only [execOp, ho, e1]; go_simp) (hK.out _ _ (hF.now rfl))
    · refine step_op (Op.load 36 (.tmp 3)) (some 10) [] WqA.ns (by kernel_rfl) rfl (by kernel_rfl) (fun o ho hd hw l xs W hF hl hn K hK => ?_)
      have e1 := eval_o (xs := xs) (ns := WqA.ns) hx3
      exact load_c (hw _) hd ho b5 e1 (blk_below hb3 hF.1) Try.underlying36 rfl (by kernel_rfl) (hK.out _ _ (hF.now rfl))
    · refine step_op (Op.call { callee := .value (.func 22), args := #[.tmp 9, .tmp 10], argTypes := #[34, 36] }) (some 11) [1, 2] WqA.ns (by kernel_rfl) rfl (by kernel_rfl) (fun o ho hd hw l xs W hF hl hn K hK => ?_)
      have e0 := hF.at (ns := WqA.ns) (a := a) (t := 9) 1 (hn.1) (hsz 9 (by decide))
      have e1 := hF.at (ns := WqA.ns) (a := a) (t := 10) 2 (hn.2.1) (hsz 10 (by decide))
      refine goes_ Try.func22 (by kernel_rfl) rfl #[.agg #[.slice Y0 p.f0.length d0, .slice Y1 p.f1.length d1, .slice Y2 p.f2.length d2, .slice Y3 p.f3.length d3, .slice Y4 p.f4.length d4, .slice Y5 p.f5.length d5, .slice Y6 p.f6.length d6, .slice Y7 p.f7.length d7, .slice Y8 p.f8.length d8, .slice Y9 p.f9.length d9, .slice Y10 p.f10.length d10], .agg #[.string t.f0, .string t.f1, .string t.f2]] (hw _) hd ho (by simp only [List.map_toArray, List.map_cons, List.map_nil, e0, e1]; rfl) ?_
      refine (allows_pol_calls p #[.slice Y0 p.f0.length d0, .slice Y1 p.f1.length d1, .slice Y2 p.f2.length d2, .slice Y3 p.f3.length d3, .slice Y4 p.f4.length d4, .slice Y5 p.f5.length d5, .slice Y6 p.f6.length d6, .slice Y7 p.f7.length d7, .slice Y8 p.f8.length d8, .slice Y9 p.f9.length d9, .slice Y10 p.f10.length d10] t W (k34.K_below hF.1 kg) (okB_iff.1 hz.ok)).mono ?_
      rintro e W' ⟨rfl, hb⟩
      exact ⟨_, rfl, hK.out _ _ (hF.up hb rfl)⟩
    · refine step_op (Op.load 34 (.tmp 2)) (some 12) [] WqA.ns (by kernel_rfl) rfl (by kernel_rfl) (fun o ho hd hw l xs W hF hl hn K hK => ?_)
      have e1 := eval_o (xs := xs) (ns := WqA.ns) hx2
      exact load_c (hw _) hd ho b3 e1 (blk_below hb2 hF.1) Try.underlying34 rfl (by kernel_rfl) (hK.out _ _ (hF.now rfl))
    · refine step_op (Op.load 36 (.tmp 3)) (some 13) [] WqA.ns (by kernel_rfl) rfl (by kernel_rfl) (fun o ho hd hw l xs W hF hl hn K hK => ?_)
      have e1 := eval_o (xs := xs) (ns := WqA.ns) hx3
      exact load_c (hw _) hd ho b5 e1 (blk_below hb3 hF.1) Try.underlying36 rfl (by kernel_rfl) (hK.out _ _ (hF.now rfl))
    · refine step_op (Op.call { callee := .value (.func 23), args := #[.tmp 12, .tmp 13], argTypes := #[34, 36] }) (some 14) [4, 5, 3] WqA.ns (by kernel_rfl) rfl (by kernel_rfl) (fun o ho hd hw l xs W hF hl hn K hK => ?_)
      have e0 := hF.at (ns := WqA.ns) (a := a) (t := 12) 4 (hn.1) (hsz 12 (by decide))
      have e1 := hF.at (ns := WqA.ns) (a := a) (t := 13) 5 (hn.2.1) (hsz 13 (by decide))
      refine goes_ Try.func23 (by kernel_rfl) rfl #[.agg #[.slice A0 p.f0.length c0, .slice A1 p.f1.length c1, .slice A2 p.f2.length c2, .slice A3 p.f3.length c3, .slice A4 p.f4.length c4, .slice A5 p.f5.length c5, .slice A6 p.f6.length c6, .slice A7 p.f7.length c7, .slice A8 p.f8.length c8, .slice A9 p.f9.length c9, .slice A10 p.f10.length c10], .agg #[.string t.f0, .string t.f1, .string t.f2]] (hw _) hd ho (by simp only [List.map_toArray, List.map_cons, List.map_nil, e0, e1]; rfl) ?_
      refine (refMeanAllows_calls p #[.slice A0 p.f0.length c0, .slice A1 p.f1.length c1, .slice A2 p.f2.length c2, .slice A3 p.f3.length c3, .slice A4 p.f4.length c4, .slice A5 p.f5.length c5, .slice A6 p.f6.length c6, .slice A7 p.f7.length c7, .slice A8 p.f8.length c8, .slice A9 p.f9.length c9, .slice A10 p.f10.length c10] t W (k34.K_below hF.1 kp) hz).mono ?_
      rintro e W' ⟨rfl, hb⟩
      exact ⟨_, rfl, hK.out _ _ (hF.up hb rfl)⟩
    · refine step_op (Op.binOp .eql 4 (.tmp 11) (.tmp 14) 4) (some 15) [3, 6] WqA.ns (by kernel_rfl) rfl (by kernel_rfl) (fun o ho hd hw l xs W hF hl hn K hK => ?_)
      have e0 := hF.at (ns := WqA.ns) (a := a) (t := 11) 3 (hn.1) (hsz 11 (by decide))
      have e1 := hF.at (ns := WqA.ns) (a := a) (t := 14) 6 (hn.2.1) (hsz 14 (by decide))
      exact value_ (v := .bool true) (hw _) hd (w1 := W) (by simp only [Act.eval, Array.getD_eq_getD_getElem?] at e0 e1; simp only [execOp, ho]; first | (go_simp; done) | (simp [Act.eval, WqA.V] at *; go_simp)) (hK.out _ _ (hF.now rfl))
    · refine step_op (Op.move (.tmp 15)) (some 16) [7, 6] WqA.ns (by kernel_rfl) rfl (by kernel_rfl) (fun o ho hd hw l xs W hF hl hn K hK => ?_)
      have e0 := hF.at (ns := WqA.ns) (a := a) (t := 15) 7 (hn.1) (hsz 15 (by decide))
      exact value_ (v := .bool true) (hw _) hd (w1 := W) (by simp only [Act.eval, Array.getD_eq_getD_getElem?] at e0; simp only [execOp, ho]; first | (go_simp; done) | (simp [Act.eval, WqA.V] at *; go_simp)) (hK.out _ _ (hF.now rfl))
    · refine step_og (Op.load 39 (.tmp 5)) (some 17) 8 true 16 [8] WqA.ns (by kernel_rfl) (by kernel_rfl) rfl (by kernel_rfl) (fun o ho hd hw0 l xs W hF hl hn K hK => ?_)
      have eg := hF.at (ns := WqA.ns) (a := a) (t := 16) 8 (hn.1) (hsz 16 (by decide))
      have hw := hw0 (putZ a WqA.ns 0 xs) (by rw [putZ_size]; exact hsz 16 (by decide)) eg
      have e1 := eval_o (xs := xs) (ns := WqA.ns) h7
      exact load_c hw hd ho b7 e1 (blk_below hb7 hF.1) Try.underlying39 rfl (by rw [size39r]; simp [cf_size kf]) (hK.out _ _ (hF.now rfl))
    · refine step_og (Op.load 34 (.tmp 2)) (some 18) 8 true 16 [8] WqA.ns (by kernel_rfl) (by kernel_rfl) rfl (by kernel_rfl) (fun o ho hd hw0 l xs W hF hl hn K hK => ?_)
      have eg := hF.at (ns := WqA.ns) (a := a) (t := 16) 8 (hn.1) (hsz 16 (by decide))
      have hw := hw0 (putZ a WqA.ns 0 xs) (by rw [putZ_size]; exact hsz 16 (by decide)) eg
      have e1 := eval_o (xs := xs) (ns := WqA.ns) hx2
      exact load_c hw hd ho b3 e1 (blk_below hb2 hF.1) Try.underlying34 rfl (by kernel_rfl) (hK.out _ _ (hF.now rfl))
    · refine step_og (Op.call { callee := .value (.func 21), args := #[.tmp 17, .tmp 18], argTypes := #[39, 34] }) (some 19) 8 true 16 [9, 10, 8, 8] WqA.ns (by kernel_rfl) (by kernel_rfl) rfl (by kernel_rfl) (fun o ho hd hw0 l xs W hF hl hn K hK => ?_)
      have eg := hF.at (ns := WqA.ns) (a := a) (t := 16) 8 (hn.2.2.1) (hsz 16 (by decide))
      have hw := hw0 (putZ a WqA.ns 0 xs) (by rw [putZ_size]; exact hsz 16 (by decide)) eg
      have e0 := hF.at (ns := WqA.ns) (a := a) (t := 17) 9 (hn.1) (hsz 17 (by decide))
      have e1 := hF.at (ns := WqA.ns) (a := a) (t := 18) 10 (hn.2.1) (hsz 18 (by decide))
      refine goes_ Try.func21 (by kernel_rfl) rfl #[.agg (#[.slice Y0 p.f0.length d0, .slice Y1 p.f1.length d1, .slice Y2 p.f2.length d2, .slice Y3 p.f3.length d3, .slice Y4 p.f4.length d4, .slice Y5 p.f5.length d5, .slice Y6 p.f6.length d6, .slice Y7 p.f7.length d7, .slice Y8 p.f8.length d8, .slice Y9 p.f9.length d9, .slice Y10 p.f10.length d10] ++ CF ++ #[vl]), .agg #[.slice A0 p.f0.length c0, .slice A1 p.f1.length c1, .slice A2 p.f2.length c2, .slice A3 p.f3.length c3, .slice A4 p.f4.length c4, .slice A5 p.f5.length c5, .slice A6 p.f6.length c6, .slice A7 p.f7.length c7, .slice A8 p.f8.length c8, .slice A9 p.f9.length c9, .slice A10 p.f10.length c10]] hw hd ho (by simp only [List.map_toArray, List.map_cons, List.map_nil, e0, e1]; rfl) ?_
      refine (untouched_calls p (.slice Y0 p.f0.length d0) (.slice Y1 p.f1.length d1) (.slice Y2 p.f2.length d2) (.slice Y3 p.f3.length d3) (.slice Y4 p.f4.length d4) (.slice Y5 p.f5.length d5) (.slice Y6 p.f6.length d6) (.slice Y7 p.f7.length d7) (.slice Y8 p.f8.length d8) (.slice Y9 p.f9.length d9) (.slice Y10 p.f10.length d10) CF #[.slice A0 p.f0.length c0, .slice A1 p.f1.length c1, .slice A2 p.f2.length c2, .slice A3 p.f3.length c3, .slice A4 p.f4.length c4, .slice A5 p.f5.length c5, .slice A6 p.f6.length c6, .slice A7 p.f7.length c7, .slice A8 p.f8.length c8, .slice A9 p.f9.length c9, .slice A10 p.f10.length c10] vl B W (k34.K_below hF.1 kf) (Kd.R_below kl hF.1) (k34.K_below hF.1 kp) hz).mono ?_
      rintro e W' ⟨rfl, hb⟩
      exact ⟨_, rfl, hK.out _ _ (hF.up hb rfl)⟩
    · refine step_op (Op.pick (.tmp 16) (.tmp 19) (.const (.bool false))) (some 20) [8, 11] WqA.ns (by kernel_rfl) rfl (by kernel_rfl) (fun o ho hd hw l xs W hF hl hn K hK => ?_)
      have e0 := hF.at (ns := WqA.ns) (a := a) (t := 16) 8 (hn.1) (hsz 16 (by decide))
      have e1 := hF.at (ns := WqA.ns) (a := a) (t := 19) 11 (hn.2.1) (hsz 19 (by decide))
      exact value_ (v := .bool true) (hw _) hd (w1 := W) (by simp only [Act.eval, Array.getD_eq_getD_getElem?] at e0 e1; simp only [execOp, ho]; first | (go_simp; done) | (simp [Act.eval, WqA.V] at *; go_simp)) (hK.out _ _ (hF.now rfl))
    · refine step_op (Op.assign (.tmp 20)) (some 4) [12, 11, 0, 1, 2, 3, 4, 5, 6, 7, 8, 9, 10, 11, 12] WqA.ns (by kernel_rfl) rfl (by kernel_rfl) (fun o ho hd hw l xs W hF hl hn K hK => ?_)
      have e0 := hF.at (ns := WqA.ns) (a := a) (t := 20) 12 (hn.1) (hsz 20 (by decide))
      exact value_ (v := .bool true) (hw _) hd (w1 := W) (by simp only [Act.eval, Array.getD_eq_getD_getElem?] at e0; simp only [execOp, ho]; first | (go_simp; done) | (simp [Act.eval, WqA.V] at *; go_simp)) (hK.out _ _ (hF.now rfl))
set_option maxRecDepth 100000 in
set_option maxHeartbeats 4000000 in
theorem MeanAllows.walk (x0 : S34) (c0 : Array Value) (x1 : S36) (c1 : Array Value) (w : World) (hk0 : Kd.K k34 w x0 c0.toList) (hg0 : g34 x0) (hk1 : Kd.K k36 w x1 c1.toList) (hg1 : g36 x1) (hb : b34 x0 + b36 x1 ≤ 1048576) :
    Calls Go.Proofs.Try.prog 6 #[.agg c0, .agg c1] w fun e w' => e = .returned (.bool true) ∧ Below w.heap.size w w' := by
  have hs := sz_of x0 (by omega)
  clear hb hg0 hg1
  obtain ⟨C0, rfl⟩ : ∃ C, C = c0 := ⟨_, rfl⟩
  obtain ⟨p, rfl⟩ : ∃ p, p = x0 := ⟨_, rfl⟩
  obtain ⟨D1, hD1⟩ : ∃ C, C = c1 := ⟨_, rfl⟩
  subst hD1
  have HK := Lib.hid hk0
  obtain ⟨A0, c0, A1, c1, A2, c2, A3, c3, A4, c4, A5, c5, A6, c6, A7, c7, A8, c8, A9, c9, A10, c10, e_, l0, g0, l1, g1, l2, g2, l3, g3, l4, g4, l5, g5, l6, g6, l7, g7, l8, g8, l9, g9, l10, g10⟩ := k34_open hk0
  obtain rfl : C0 = #[.slice A0 p.f0.length c0, .slice A1 p.f1.length c1, .slice A2 p.f2.length c2, .slice A3 p.f3.length c3, .slice A4 p.f4.length c4, .slice A5 p.f5.length c5, .slice A6 p.f6.length c6, .slice A7 p.f7.length c7, .slice A8 p.f8.length c8, .slice A9 p.f9.length c9, .slice A10 p.f10.length c10] := by cases C0; simpa using e_
  clear e_
  have e1_ := k36_open hk1
  obtain rfl : D1 = #[Value.string x1.f0, Value.string x1.f1, Value.string x1.f2] := by cases D1; simpa using e1_
  clear e1_ hk1
  clear hk0 g0 g1 g2 g3 g4 g5 g6 g7 g8 g9 g10
  go_enter Try.func6, Try.ntmps6
  go_upto_region 2 with (first | ((with_reducible refine gate_dst (N := 2) rfl ?_); refine box_event ?hg (N := 2) ?hd (cs := #[.slice A0 p.f0.length c0, .slice A1 p.f1.length c1, .slice A2 p.f2.length c2, .slice A3 p.f3.length c3, .slice A4 p.f4.length c4, .slice A5 p.f5.length c5, .slice A6 p.f6.length c6, .slice A7 p.f7.length c7, .slice A8 p.f8.length c8, .slice A9 p.f9.length c9, .slice A10 p.f10.length c10]) (t := 34) ?hr ?_; (case hd => rfl); (case hg => rfl); (case hr => first | (go_simp; done) | (go_simp; rfl)); intro b3 hg_ w1 hb3 hB3; go_must (skip); clear hg_) | ((with_reducible refine gate_dst (N := 3) rfl ?_); refine box_event ?hg (N := 3) ?hd (cs := #[.string x1.f0, .string x1.f1, .string x1.f2]) (t := 36) ?hr ?_; (case hd => rfl); (case hg => rfl); (case hr => first | (go_simp; done) | (go_simp; rfl)); intro b5 hg_ w2 hb5 hB5; go_must (skip); clear hg_) | ((with_reducible refine gate_ (.load 34 (.tmp 2)) rfl ?_); go_must (refine wpList_load_row rfl 34 (.tmp 2) rfl b3 rfl _ _ _ _ (blk_below hb3 hB5) Try.underlying34 rfl (by kernel_rfl) ?_)) | (go_at_call 18; go_must (refine (roomy_calls p _ _ ?kk hs).mono ?_); go_must (case kk => exact k34.K_below ((hB3).trans (hB5.mono (hB3.size))) HK.out); rintro e W ⟨CG, CF, vl, he, kg, kf, kl, hbl⟩; obtain ⟨RR, hRR⟩ : ∃ R, R = CG ++ CF ++ #[vl] := ⟨_, rfl⟩; rw [← hRR] at he; subst he; have HRR := Lib.hid hRR; clear hRR; have KG := Lib.hid kg; have KF := Lib.hid kf; have KL := Lib.hid kl; clear kg kf kl) | ((with_reducible refine gate_dst (N := 5) rfl ?_); refine box_event ?hg (N := 5) ?hd (cs := #[.slice none 0 0, .slice none 0 0, .slice none 0 0, .slice none 0 0, .slice none 0 0, .slice none 0 0, .slice none 0 0, .slice none 0 0, .slice none 0 0, .slice none 0 0, .slice none 0 0, .slice none 0 0, .slice none 0 0, .slice none 0 0, .slice none 0 0, .slice none 0 0, .slice none 0 0, .slice none 0 0, .slice none 0 0, .slice none 0 0, .slice none 0 0, .slice none 0 0, .slice none 0 0]) (t := 39) ?hr ?_; (case hd => rfl); (case hg => rfl); (case hr => first | (go_simp; done) | (go_simp; rfl)); intro b7 hg_ w9 hb7 hB7; go_must (have hle7 : W.heap.size ≤ b7 := (by omega)); clear hg_) | ((with_reducible refine gate_ (.store 39 (.tmp 5) (.tmp 7)) rfl ?_); go_must (refine bstore (t := 39) (p := 5) (v := .tmp 7) rfl rfl rfl b7 _ RR (.agg RR) rfl rfl rfl hb7 (by rw [size39r, HRR.out]; simp [cf_size KG.out, cf_size KF.out]) (by rw [HRR.out]; simp [cf_size KG.out, cf_size KF.out]) (by rw [HRR.out]; exact room_one KG.out KF.out KL.out) ?_); intro w6 hb6 hoth hsz hbel))
  have B5 : Below w.heap.size w w2 := (hB3).trans (hB5.mono (hB3.size))
  have BW : Below w.heap.size w W := B5.trans (hbl.mono B5.size)
  have B76 : Below W.heap.size W w6 := hB7.trans (hbel _ hle7)
  have B6 : Below w.heap.size w w6 := BW.trans (B76.mono BW.size)
  rw [HRR.out] at hb6
  refine WqA.region p x1 CG CF vl _ rfl rfl rfl rfl rfl (blk_below (blk_below (blk_below hb3 hB5) hbl) B76) (blk_below (blk_below hb5 hbl) B76) hb6 (k34.K_below B6 HK.out) (k34.K_below B76 KG.out) (k34.K_below B76 KF.out) (Kd.R_below KL.out B76) hs  ?_
  intro V W2 hW2 hV
  simp only [putZ, Act.put, List.setIfInBounds_toArray, List.set_cons_zero, List.set_cons_succ]
  rw [hV]
  go_wp2
  go_ret
  exact ⟨rfl, B6.trans (hW2.mono B6.size)⟩
end Go.Proofs.Ytnkdcekddhmjnaa.F
