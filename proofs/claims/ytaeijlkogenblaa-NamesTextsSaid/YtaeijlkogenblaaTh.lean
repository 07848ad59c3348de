/- NamesTexts: the walk of the law. Conditions: the two scripts read as they must. -/
import Derived.Test.YtaeijlkogenblaaTg
namespace Go.Proofs.Ytaeijlkogenblaa.Nt
open Go.RowKit Go.Shelf Go.Proofs.YtaeijlkogenblaaW.Raw Go.Proofs.YtaeijlkogenblaaW.PrintWords Go.Proofs.YtaeijlkogenblaaW.PrintLast Go.Proofs.Ytaeijlkogenblaa.IxS
open Go.Proofs.Ytaeijlkogenblaa.Nf (Stp kSt zSt cellsOf at_st)
set_option linter.unusedVariables false
set_option linter.unusedSimpArgs false
theorem Main.below {w wr : World} {bA gA mA bB gB mB nA nB : Nat} (h : Main w wr bA gA mA bB gB mB nA nB) : Below w.heap.size w wr := by
  obtain ⟨_, _, _, _, _, _, _, h6⟩ := h
  exact h6
theorem st_cells {w W : World} {ad : Addr} {k : Nat} {x : Stp} (hst : ∀ j u, (cellsOf x)[j]? = some u → w.cell? (ad.add (k * 7 + j)) = some u) (hb : Below w.heap.size w W) :
    W.cell? (ad.add (k * 7)) = some (.int .i64 x.1) ∧ W.cell? ⟨(ad.add (k * 7)).block, (ad.add (k * 7)).off + 1, none⟩ = some (.string x.2.1) ∧ W.cell? ⟨(ad.add (k * 7)).block, (ad.add (k * 7)).off + 2, none⟩ = some (.float .f64 x.2.2.1) ∧ W.cell? ⟨(ad.add (k * 7)).block, (ad.add (k * 7)).off + 3, none⟩ = some (.int .i64 (x.2.2.2.1.getD 0 0)) ∧ W.cell? ⟨(ad.add (k * 7)).block, (ad.add (k * 7)).off + 4, none⟩ = some (.int .i64 (x.2.2.2.1.getD 1 0)) ∧ W.cell? ⟨(ad.add (k * 7)).block, (ad.add (k * 7)).off + 5, none⟩ = some (.int .i64 x.2.2.2.2.1) ∧ W.cell? ⟨(ad.add (k * 7)).block, (ad.add (k * 7)).off + 6, none⟩ = some (.int .i64 x.2.2.2.2.2) := by
  have hst' : ∀ j y, (cellsOf x)[j]? = some y → W.cell? (ad.add (k * 7 + j)) = some y := fun j y hy => pw_cell_below hb (hst j y hy)
  have q1 := hst' 1 _ rfl
  have q2 := hst' 2 _ rfl
  have q3 := hst' 3 _ rfl
  have q4 := hst' 4 _ rfl
  have q5 := hst' 5 _ rfl
  have q6 := hst' 6 _ rfl
  rw [add_field _ _ _ (by decide)] at q1 q2 q3 q4 q5 q6
  exact ⟨hst' 0 _ rfl, q1, q2, q3, q4, q5, q6⟩
set_option maxHeartbeats 4000000 in
set_option maxRecDepth 100000 in
theorem texts_walk (x0 x1 : List Stp) (A0 A1 : Option Addr) (c0 c1 : Nat) (w : World) (hr0 : Kd.C kSt w A0 x0.length x0) (hr1 : Kd.C kSt w A1 x1.length x1) (hl0 : x0.length * 64 ≤ 140737488351232) (hl1 : x1.length * 64 ≤ 140737488351232)
    (hn0 : ∀ x ∈ x0, (Lit.int .i64 x.2.2.2.2.1).wf = true) (hn1 : ∀ x ∈ x1, (Lit.int .i64 x.2.2.2.2.1).wf = true) :
    Calls Try.prog 5 #[.slice A0 x0.length c0, .slice A1 x1.length c1] w fun e w' => e = .returned (.bool true) ∧ Below w.heap.size w w' := by
  have HR0 := Lib.hid hr0
  have HR1 := Lib.hid hr1
  have HN0 := Lib.hid hn0
  have HN1 := Lib.hid hn1
  have hL0 : (x0.length : Int) ≤ 2199023255488 := by omega
  have hL1 : (x1.length : Int) ≤ 2199023255488 := by omega
  have U1 : True := trivial
  have U2 : True := trivial
  clear hr0 hr1 hn0 hn1 hl0 hl1
  go_enter Try.func5, Try.ntmps5
  go_wp2_with (first | (go_at_call 8; clear U1; go_must (refine (IxS.new_calls _).mono ?_); rintro e w1 ⟨gA, mA, rfl, hI, hb⟩; have HI1 := Lib.hid hI; have HB1 := Lib.hid hb; clear hI hb) | ((with_reducible refine gate_dst (N := 12) rfl ?_); refine box_event rfl (N := 12) rfl (cs := #[.pointer (some ⟨gA, 0, none⟩), .slice none 0 0, .slice none 0 0, .slice none 0 0]) (t := 45) ?hr ?_; (case hr => first | (go_simp; done) | (go_simp; rfl)); intro bA hg w2 hb0 hbel; have HB2 := Lib.hid hbel; have HGA := Lib.hid hg; have KA := Lib.hid hb0; clear hg hb0 hbel) | (go_at_call 8; clear U2; go_must (refine (IxS.new_calls _).mono ?_); rintro e w3 ⟨gB, mB, rfl, hI, hb⟩; have HI3 := Lib.hid hI; have HB3 := Lib.hid hb; clear hI hb) | ((with_reducible refine gate_dst (N := 15) rfl ?_); refine box_event rfl (N := 15) rfl (cs := #[.pointer (some ⟨gB, 0, none⟩), .slice none 0 0, .slice none 0 0, .slice none 0 0]) (t := 45) ?hr ?_; (case hr => first | (go_simp; done) | (go_simp; rfl)); intro bB hg w4 hb0 hbel; have HB4 := Lib.hid hbel; have HGB := Lib.hid hg; have KB := Lib.hid hb0; have kA := (hbel.block bA (lt_of_get ((HB3.out.block bA (lt_of_get KA.out)).trans KA.out))).trans ((HB3.out.block bA (lt_of_get KA.out)).trans KA.out); have cA := (blk_cell kA 0).trans (Eq.refl (some (Value.pointer (some ⟨gA, 0, none⟩)))); have cB := (blk_cell hb0 0).trans (Eq.refl (some (Value.pointer (some ⟨gB, 0, none⟩)))); clear hg hb0 hbel kA))
  have HM0 := Lib.hid (main_new HI1.out HB1.out HGA.out KA.out HB2.out HI3.out HB3.out HGB.out KB.out HB4.out)
  clear cA cB HI1 HB1 HGA KA HB2 HI3 HB3 HGB KB HB4
  obtain ⟨M, hM⟩ : ∃ M, M = max x0.length x1.length := ⟨_, rfl⟩
  have HM1 := Lib.hid (show x0.length ≤ M ∧ x1.length ≤ M ∧ M ≤ 2199023255488 from ⟨by omega, by omega, by omega⟩)
  clear hM
  go_loopw [7] (fun i wr => ∃ k : Nat, k ≤ M ∧ i = .int .i64 (k : Nat) ∧ Main w wr bA gA mA bB gB mB k k) (fun i _ => M - (intOf i).toNat)
  case atStart => exact ⟨0, Nat.zero_le _, rfl, HM0.out⟩
  case round =>
    obtain ⟨k, hk, rfl, hMk⟩ := hrel
    have HM := Lib.hid hMk
    clear HM0 hMk
    by_cases h0 : k < x0.length
    · obtain ⟨ad0, rfl, hst0⟩ := at_st HR0.out k h0
      obtain ⟨x, hx⟩ : ∃ x, x = x0.getD k zSt := ⟨_, rfl⟩
      rw [← hx] at hst0
      have hwx : (Lit.int .i64 x.2.2.2.2.1).wf = true := HN0.out x (by rw [hx, List.getD_eq_getElem?_getD, List.getElem?_eq_getElem h0]; exact List.getElem_mem _)
      have HS0 := Lib.hid hst0
      have HWX := Lib.hid hwx
      have hk0 : (k : Int) < (x0.length : Int) := by omega
      have HBD := Lib.hid (show (k + 1) * 24 ≤ 140737488355328 from by omega)
      have HKM := Lib.hid (show k + 1 ≤ M from by have := HM1.out.1; omega)
      clear hx hst0 hwx h0 hk
      obtain ⟨q0, q1, q2, q3, q4, q5, q6⟩ := st_cells HS0.out HM.out.below
      by_cases h1 : k < x1.length
      · obtain ⟨ad1, rfl, hst1⟩ := at_st HR1.out k h1
        obtain ⟨y, hy⟩ : ∃ y, y = x1.getD k zSt := ⟨_, rfl⟩
        rw [← hy] at hst1
        have hwy : (Lit.int .i64 y.2.2.2.2.1).wf = true := HN1.out y (by rw [hy, List.getD_eq_getElem?_getD, List.getElem?_eq_getElem h1]; exact List.getElem_mem _)
        have HS1 := Lib.hid hst1
        have HWY := Lib.hid hwy
        have hk1 : (k : Int) < (x1.length : Int) := by omega
        clear hy hst1 hwy h1
        have U1 : True := trivial
        go_wp2_with (first | (go_at_call 18; clear U1; go_must (refine (HM.out.left x.1 x.2.2.2.2.1 x.2.2.2.2.2 (x.2.2.2.1.getD 0 0) (x.2.2.2.1.getD 1 0) x.2.1 x.2.2.1 HWX.out HBD.out).mono ?_); rintro e w2 ⟨rfl, hM2⟩; obtain ⟨r0, r1, r2, r3, r4, r5, r6⟩ := st_cells HS1.out hM2.below; have HM2 := Lib.hid hM2; clear hM2 q0 q1 q2 q3 q4 q5 q6) | (go_at_call 18; go_must (refine (HM2.out.right y.1 y.2.2.2.2.1 y.2.2.2.2.2 (y.2.2.2.1.getD 0 0) (y.2.2.2.1.getD 1 0) y.2.1 y.2.2.1 HWY.out HBD.out).mono ?_); rintro e w3 ⟨rfl, hM3⟩; have HM3 := Lib.hid hM3; clear hM3 r0 r1 r2 r3 r4 r5 r6))
        go_roundw
        case rel => exact ⟨k + 1, HKM.out, by go_num, HM3.out⟩
        case measure => have := HKM.out; simp [intOf]; omega
      · have hk1 : ¬ (k : Int) < (x1.length : Int) := by omega
        have hk1d : decide ((k : Int) < (x1.length : Int)) = false := decide_eq_false hk1
        clear h1
        go_wp2_with (first | (go_at_call 18; go_must (refine (HM.out.left x.1 x.2.2.2.2.1 x.2.2.2.2.2 (x.2.2.2.1.getD 0 0) (x.2.2.2.1.getD 1 0) x.2.1 x.2.2.1 HWX.out HBD.out).mono ?_); rintro e w2 ⟨rfl, hM2⟩; have HM2 := Lib.hid hM2; clear hM2 q0 q1 q2 q3 q4 q5 q6))
        go_roundw
        case rel => exact ⟨k + 1, HKM.out, by go_num, HM2.out.le (Nat.le_refl _) (Nat.le_succ _)⟩
        case measure => have := HKM.out; simp [intOf]; omega
    · have hk0 : ¬ (k : Int) < (x0.length : Int) := by omega
      have hk0d : decide ((k : Int) < (x0.length : Int)) = false := decide_eq_false hk0
      by_cases h1 : k < x1.length
      · obtain ⟨ad1, rfl, hst1⟩ := at_st HR1.out k h1
        obtain ⟨y, hy⟩ : ∃ y, y = x1.getD k zSt := ⟨_, rfl⟩
        rw [← hy] at hst1
        have hwy : (Lit.int .i64 y.2.2.2.2.1).wf = true := HN1.out y (by rw [hy, List.getD_eq_getElem?_getD, List.getElem?_eq_getElem h1]; exact List.getElem_mem _)
        have HS1 := Lib.hid hst1
        have HWY := Lib.hid hwy
        have hk1 : (k : Int) < (x1.length : Int) := by omega
        have hk1d : decide ((k : Int) < (x1.length : Int)) = true := decide_eq_true hk1
        have HBD := Lib.hid (show (k + 1) * 24 ≤ 140737488355328 from by omega)
        have HKM := Lib.hid (show k + 1 ≤ M from by have := HM1.out.2.1; omega)
        clear hy hst1 hwy h1 h0 hk
        obtain ⟨r0, r1, r2, r3, r4, r5, r6⟩ := st_cells HS1.out HM.out.below
        go_wp2_with (first | (go_at_call 18; go_must (refine (HM.out.right y.1 y.2.2.2.2.1 y.2.2.2.2.2 (y.2.2.2.1.getD 0 0) (y.2.2.2.1.getD 1 0) y.2.1 y.2.2.1 HWY.out HBD.out).mono ?_); rintro e w3 ⟨rfl, hM3⟩; have HM3 := Lib.hid hM3; clear hM3 r0 r1 r2 r3 r4 r5 r6))
        go_roundw
        case rel => exact ⟨k + 1, HKM.out, by go_num, HM3.out.le (Nat.le_succ _) (Nat.le_refl _)⟩
        case measure => have := HKM.out; simp [intOf]; omega
      · have hk1 : ¬ (k : Int) < (x1.length : Int) := by omega
        have hk1d : decide ((k : Int) < (x1.length : Int)) = false := decide_eq_false hk1
        obtain ⟨fa, fb, ⟨va, ra, kpa, wea, xsa, ksa, hA, _⟩, ⟨vb, rb, kpb, web, xsb, ksb, hB, _⟩, _, _, _, hbel⟩ := HM.out
        obtain ⟨Ara, cra, rfl⟩ := own_slice hA.rr
        obtain ⟨Arb, crb, rfl⟩ := own_slice hB.rr
        have a0 := (blk_cell hA.blk 0).trans (Eq.refl (some (Value.pointer (some ⟨gA, 0, none⟩))))
        have a1 := (blk_cell hA.blk 1).trans (Eq.refl (some (Value.slice Ara xsa.length cra)))
        have b0 := (blk_cell hB.blk 0).trans (Eq.refl (some (Value.pointer (some ⟨gB, 0, none⟩))))
        have b1 := (blk_cell hB.blk 1).trans (Eq.refl (some (Value.slice Arb xsb.length crb)))
        have HA := Lib.hid hA
        have HB := Lib.hid hB
        have HBL := Lib.hid hbel
        have U1 : True := trivial
        clear hA hB hbel h0 h1 hk
        go_wp2_with fail
        go_quiet ((first | (go_at_call 10; exact Calls.quiet_of_same (IxS.len_calls xsa _ gA mA _ _ (idx_move HA.out.I (fun _ _ _ => rfl)))) | (go_at_call 10; exact Calls.quiet_of_same (IxS.len_calls xsb _ gB mB _ _ (idx_move HB.out.I (fun _ _ _ => rfl))))))
        go_wp2
        go_ret
        exact ⟨by simp, pw_below_drewN HBL.out _⟩
end Go.Proofs.Ytaeijlkogenblaa.Nt
