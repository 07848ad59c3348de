import Derived.Test.YteefneemmdfncaaSA
import Derived.Test.YteefneemmdfncaaF8
import Derived.Test.YteefneemmdfncaaF9
/- mean.allows: rules that speak of a subject and an object, of a triple. Conditions: each theorem's own.
mean.Matches. Conditions: the policy reads as it must; its pairs are at most 16777215, either side.
mean.Allows. Conditions: the policy reads as it must; its pairs are at most 16777215, either side. -/
namespace Go.Proofs.Yteefneemmdfncaa.M
open Go.RowKit Go.Proofs.YteefneemmdfncaaW.Raw Go.Proofs.YteefneemmdfncaaW.PrintWords Go.Proofs.Yteefneemmdfncaa.F
set_option linter.unusedVariables false
attribute [local go_sem] run_store_float
abbrev triV (t : Tri) : Value := .agg #[.string t.f0, .string t.f1, .string t.f2]
theorem names_calls (r : Rule) (c : Array Value) (a : ByteArray) (w : World) (hk : k75.K w r c.toList) :
    Calls Try.prog 101 #[.agg c, .string a] w fun e w' => e = .returned (.bool (namesB r a)) ∧ Below w.heap.size w w' := by
  obtain ⟨A3, c3, e, l3, g3⟩ := k75_open hk
  obtain rfl : c = #[.bool r.f0, .string r.f1, .string r.f2, .slice A3 r.f3.length c3, .int .i8 r.f4, .float .f64 r.f5] := by cases c; simpa using e
  refine mean_names.calls (r.f3.length + 1) r.f0 r.f1 r.f2 A3 c3 r.f3 r.f4 r.f5 a _ w g3 l3 ?_
  unfold mean_names.f namesB
  by_cases h0 : r.f3 = []
  · rw [h0]; rfl
  · rw [if_neg (by intro e; apply h0; exact List.eq_nil_of_length_eq_zero (by omega)), contains_f _ _ g3.2.1]
    simp only [Option.bind_some]
    cases hq : r.f3 with
    | nil => exact absurd hq h0
    | cons x xs => rfl
theorem idx_ev (l : List Tri) (t : Tri) (hl : l.length ≤ 9223372036854775807) (d : Nat) : ∀ (k i : Nat), i ≤ l.length → l.length - i = d → d < k →
    ∃ r, api_Triple_130.l0 k l (l.length : Int) (i : Int) t.f0 t.f1 t.f2 = some r ∧ (decide (r ≥ 0) = (l.drop i).any fun u => eqT t u) := by
  induction d with
  | zero =>
    intro k i h1 hd hk
    obtain ⟨k, rfl⟩ : ∃ m, k = m + 1 := ⟨k - 1, by omega⟩
    refine ⟨-1, by simp only [api_Triple_130.l0]; rw [if_neg (by omega)], ?_⟩
    rw [List.drop_of_length_le (by omega)]
    rfl
  | succ d ih =>
    intro k i h1 hd hk
    obtain ⟨k, rfl⟩ : ∃ m, k = m + 1 := ⟨k - 1, by omega⟩
    have hlt : i < l.length := by omega
    have hg : rd_T30 l (i : Int) = l[i] := by simp [rd_T30, hlt]
    have hdr : l.drop i = l[i] :: l.drop (i + 1) := List.drop_eq_getElem_cons hlt
    simp only [api_Triple_130.l0]
    rw [if_pos (by omega), if_pos (by omega), if_pos (by omega), hg]
    have hE : (t.f0.toList == l[i].f0.toList && (t.f1.toList == l[i].f1.toList && (t.f2.toList == l[i].f2.toList))) = eqT t l[i] := by
      unfold eqT
      rw [← Go.beq_toListBytes, ← Go.beq_toListBytes, ← Go.beq_toListBytes, Bool.and_assoc]
    rw [hE]
    cases he : eqT t l[i] with
    | true =>
      rw [if_pos rfl]
      refine ⟨i, rfl, ?_⟩
      rw [hdr]
      simp only [List.any_cons, he, Bool.true_or]
      exact decide_eq_true (by omega)
    | false =>
      rw [if_neg (by simp)]
      obtain ⟨r, hr, hm⟩ := ih k (i + 1) (by omega) (by omega) (by omega)
      refine ⟨r, ?_, ?_⟩
      · rw [show wrap64 ((i : Int) + 1) = ((i + 1 : Nat) : Int) from by unfold wrap64; omega]; exact hr
      · rw [hm, hdr]
        simp only [List.any_cons, he, Bool.false_or]
theorem excepts_calls (l : List Tri) (t : Tri) (A : Option Addr) (c : Nat) (w : World) (hr : Kd.C k30 w A l.length l) (hc : l.length ≤ c) :
    Calls Try.prog 116 #[.slice A l.length c, triV t] w fun e w' => e = .returned (.bool (l.any fun u => eqT t u)) ∧ Below w.heap.size w w' := by
  refine api_Triple_116.calls (l.length + 1) A c l t.f0 t.f1 t.f2 _ w hr hc ?_
  obtain ⟨r, hr', hm⟩ := idx_ev l t hr.2.1 l.length (l.length + 1) 0 (Nat.zero_le _) (by omega) (by omega)
  unfold api_Triple_116.f api_Triple_130.f
  rw [show (0 : Int) = ((0 : Nat) : Int) from rfl, hr']
  simp only [Option.bind_some]
  rw [show ((0 : Nat) : Int) = (0 : Int) from rfl, hm, List.drop_zero]
set_option maxRecDepth 100000 in
set_option maxHeartbeats 2000000 in
theorem allows_calls (p : Pol) (c : Array Value) (rs : List Rule) (A : Option Addr) (n : Nat) (t : Tri) (w : World) (hk : k28.K w p c.toList) (hr : Kd.C k75 w A rs.length rs) (hc : rs.length ≤ n) :
    Calls Try.prog 93 #[.agg c, .slice A rs.length n, triV t] w fun e w' => e = .returned (.bool (allowB rs p.f10 t)) ∧ Below w.heap.size w w' := by
  obtain ⟨A0, c0, A1, c1, A2, c2, A3, c3, A4, c4, A5, c5, A6, c6, A7, c7, A8, c8, A9, c9, A10, c10, e_, l0, g0, l1, g1, l2, g2, l3, g3, l4, g4, l5, g5, l6, g6, l7, g7, l8, g8, l9, g9, l10, g10⟩ := k28_open hk
  obtain rfl : c = #[.slice A0 p.f0.length c0, .slice A1 p.f1.length c1, .slice A2 p.f2.length c2, .slice A3 p.f3.length c3, .slice A4 p.f4.length c4, .slice A5 p.f5.length c5, .slice A6 p.f6.length c6, .slice A7 p.f7.length c7, .slice A8 p.f8.length c8, .slice A9 p.f9.length c9, .slice A10 p.f10.length c10] := by cases c; simpa using e_
  clear e_
  have H10 := Lib.hid g10
  have HRS := Lib.hid hr
  have hmx : rs.length ≤ 9223372036854775807 := hr.2.1
  clear hk g0 g1 g2 g3 g4 g5 g6 g7 g8 g9 g10 l0 l1 l2 l3 l4 l5 l6 l7 l8 l9 hr
  obtain ⟨W1, hW1⟩ : ∃ W1, W1 = (w.alloc (Obj.cells #[Value.slice A0 p.f0.length c0, Value.slice A1 p.f1.length c1, Value.slice A2 p.f2.length c2, Value.slice A3 p.f3.length c3, Value.slice A4 p.f4.length c4, Value.slice A5 p.f5.length c5, Value.slice A6 p.f6.length c6, Value.slice A7 p.f7.length c7, Value.slice A8 p.f8.length c8, Value.slice A9 p.f9.length c9, Value.slice A10 p.f10.length c10] 28)).alloc (Obj.cells #[Value.string t.f0, Value.string t.f1, Value.string t.f2] 30) := ⟨_, rfl⟩
  have hb : Below w.heap.size w W1 := by rw [hW1]; exact ((Below.refl _ w).alloc (Nat.le_refl _) _).alloc (by simp) _
  have r0 : W1.heap[w.heap.size]? = some (.cells #[Value.slice A0 p.f0.length c0, Value.slice A1 p.f1.length c1, Value.slice A2 p.f2.length c2, Value.slice A3 p.f3.length c3, Value.slice A4 p.f4.length c4, Value.slice A5 p.f5.length c5, Value.slice A6 p.f6.length c6, Value.slice A7 p.f7.length c7, Value.slice A8 p.f8.length c8, Value.slice A9 p.f9.length c9, Value.slice A10 p.f10.length c10] 28 (0, 0)) := by rw [hW1]; exact (heap_old _ _ (by simp)).trans (heap_new _ _)
  have r1 : W1.heap[w.heap.size + 1]? = some (.cells #[Value.string t.f0, Value.string t.f1, Value.string t.f2] 30 (0, 0)) := by
    rw [hW1]
    have := heap_new (w.alloc (Obj.cells #[Value.slice A0 p.f0.length c0, Value.slice A1 p.f1.length c1, Value.slice A2 p.f2.length c2, Value.slice A3 p.f3.length c3, Value.slice A4 p.f4.length c4, Value.slice A5 p.f5.length c5, Value.slice A6 p.f6.length c6, Value.slice A7 p.f7.length c7, Value.slice A8 p.f8.length c8, Value.slice A9 p.f9.length c9, Value.slice A10 p.f10.length c10] 28)) (Obj.cells #[Value.string t.f0, Value.string t.f1, Value.string t.f2] 30)
    rwa [size_new] at this
  have HW1 := Lib.hid hW1
  have HB := Lib.hid hb
  have R0 := Lib.hid r0
  have R1 := Lib.hid r1
  clear hW1 hb r0 r1
  go_enter Try.func93, Try.ntmps93
  go_wp2_with fail
  rw [← HW1.out]
  obtain ⟨Y, hY⟩ : ∃ Y : Nat → Bool, Y = fun k => (rs.take k).any fun r => namesB r t.f2 := ⟨_, rfl⟩
  have HY := Lib.hid hY
  clear hY
  go_loopw [7, 12] (fun v i wr => ∃ k : Nat, k ≤ rs.length ∧ i = .int .i64 (k : Nat) ∧ v = .bool (Y k) ∧ Hid ((rs.take k).any (fun r => namesB r t.f2 && r.f0) = false) ∧ Below W1.heap.size W1 wr) (fun _ i _ => rs.length - (intOf i).toNat)
  case atStart => exact ⟨0, Nat.zero_le _, rfl, by rw [HY.out]; rfl, Lib.hid rfl, Below.refl _ _⟩
  case round =>
    obtain ⟨k, hk, rfl, rfl, HD, hB⟩ := hrel
    obtain ⟨yk, hyk⟩ : ∃ yk, yk = Y k := ⟨_, rfl⟩
    rw [← hyk]
    by_cases hlt : k < rs.length
    · obtain ⟨ad, A3', c3', rfl, q0, q1, q2, q3, q4, q5, hl3, hc3⟩ := at_T75 (Kd.C_below HRS.out (HB.out.trans (hB.mono HB.out.size))) (k : Int) (by omega) (by omega)
      obtain ⟨r, hr⟩ : ∃ r, r = rd_T75 rs (k : Int) := ⟨_, rfl⟩
      rw [← hr] at q0 q1 q2 q3 q4 q5 hl3 hc3
      rw [Int.toNat_natCast] at q0 q1 q2 q3 q4 q5
      have hkr : rs[k]? = some r := by rw [hr]; simp [rd_T75, List.getD_eq_getElem?_getD, hlt]
      have htk : rs.take (k + 1) = rs.take k ++ [r] := by rw [List.take_add_one, hkr]; rfl
      obtain ⟨W2, hW2⟩ : ∃ W2, W2 = wr.alloc (Obj.cells #[Value.bool r.f0, Value.string r.f1, Value.string r.f2, Value.slice A3' r.f3.length c3', Value.int .i8 r.f4, Value.float .f64 r.f5] 75) := ⟨_, rfl⟩
      have hb2 : Below wr.heap.size wr W2 := by rw [hW2]; exact (Below.refl _ _).alloc (Nat.le_refl _) _
      have hbx := hB.trans (hb2.mono hB.size)
      have hr2 : W2.heap[wr.heap.size]? = some (.cells #[Value.bool r.f0, Value.string r.f1, Value.string r.f2, Value.slice A3' r.f3.length c3', Value.int .i8 r.f4, Value.float .f64 r.f5] 75 (0, 0)) := by rw [hW2]; exact heap_new _ _
      have y1 := (hbx.block _ (lt_of_get R1.out)).trans R1.out
      have e12 := (blk_cell y1 2).trans (Eq.refl (some (Value.string t.f2)))
      have HKR := Lib.hid (k75.K_below hb2 (k75_mk wr r hl3 hc3))
      have HB2 := Lib.hid hb2
      have HBX := Lib.hid hbx
      have HR2 := Lib.hid hr2
      have HB' := Lib.hid hB
      have HT := Lib.hid htk
      have HKN := Lib.hid hkr
      have HYK := Lib.hid hyk
      rw [hW2] at e12
      clear hr hkr htk hb2 hbx hr2 y1 hl3 hc3 hB hyk
      go_wp2_with fail
      rw [← hW2]
      clear hW2 e12
      refine (names_calls r _ t.f2 W2 HKR.out).mono ?_
      rintro e W3 ⟨rfl, hb3⟩
      have y0 := (hb3.block _ (lt_of_get HR2.out)).trans HR2.out
      have f0 := (blk_cell y0 0).trans (Eq.refl (some (Value.bool r.f0)))
      have HB3 := Lib.hid (HBX.out.trans (hb3.mono HBX.out.size))
      clear hb3 y0
      cases hq : namesB r t.f2 with
      | false =>
        have HQ := Lib.hid hq
        clear hq
        go_wp2
        go_roundw
        case rel => exact ⟨k + 1, hlt, by go_num, by rw [HY.out, HYK.out, HY.out]; simp [HT.out, HQ.out], Lib.hid (by rw [HT.out]; simp [HD.out, HQ.out]), HB3.out⟩
        case measure => simp [intOf]; omega
      | true =>
        have HQ := Lib.hid hq
        clear hq
        cases hd : r.f0 with
        | true =>
          have HDD := Lib.hid hd
          rw [hd] at f0
          clear hd
          go_wp2
          go_ret
          refine ⟨?_, HB.out.trans (HB3.out.mono HB.out.size)⟩
          have h1 : (rs.any fun r => namesB r t.f2 && r.f0) = true := by
            rw [List.any_eq_true]
            exact ⟨r, List.mem_iff_getElem?.2 ⟨k, HKN.out⟩, by rw [HQ.out, HDD.out]; rfl⟩
          unfold allowB
          rw [h1]
          simp
        | false =>
          have HDD := Lib.hid hd
          rw [hd] at f0
          clear hd
          go_wp2
          go_roundw
          case rel => exact ⟨k + 1, hlt, by go_num, by rw [HY.out]; simp [HT.out, HQ.out], Lib.hid (by rw [HT.out]; simp [HD.out, HDD.out]), HB3.out⟩
          case measure => simp [intOf]; omega
    · obtain rfl : k = rs.length := by omega
      have HB' := Lib.hid hB
      have HYK := Lib.hid hyk
      have y0 := (hB.block _ (lt_of_get R0.out)).trans R0.out
      have y1 := (hB.block _ (lt_of_get R1.out)).trans R1.out
      have e10 := (blk_cell y0 10).trans (Eq.refl (some (Value.slice A10 p.f10.length c10)))
      have f10 := (blk_cell y1 0).trans (Eq.refl (some (Value.string t.f0)))
      have f11 := (blk_cell y1 1).trans (Eq.refl (some (Value.string t.f1)))
      have f12 := (blk_cell y1 2).trans (Eq.refl (some (Value.string t.f2)))
      clear hB hyk y0 y1
      cases hy : yk with
      | false =>
        have HYY := Lib.hid hy
        clear hy
        go_wp2
        go_ret
        refine ⟨?_, HB.out.trans (HB'.out.mono HB.out.size)⟩
        have h1 : (rs.any fun r => namesB r t.f2) = false := by
          have := HYK.out
          rw [HYY.out, HY.out] at this
          simpa using this.symm
        unfold allowB
        rw [h1]
        simp
      | true =>
        have HYY := Lib.hid hy
        clear hy
        go_wp2_with fail
        refine (excepts_calls p.f10 t A10 c10 wr (Kd.C_below H10.out (HB.out.trans (HB'.out.mono HB.out.size))) l10).mono ?_
        rintro e W5 ⟨rfl, hb5⟩
        have HB5 := Lib.hid hb5
        clear hb5
        go_wp2
        go_ret
        refine ⟨?_, (HB.out.trans (HB'.out.mono HB.out.size)).trans (HB5.out.mono (HB.out.trans (HB'.out.mono HB.out.size)).size)⟩
        have h1 : (rs.any fun r => namesB r t.f2) = true := by
          have := HYK.out
          rw [HYY.out, HY.out] at this
          simpa using this.symm
        have h2 : (rs.any fun r => namesB r t.f2 && r.f0) = false := by have := HD.out; rwa [List.take_length] at this
        unfold allowB
        rw [h1, h2]
        simp
end Go.Proofs.Yteefneemmdfncaa.M
namespace Go.Proofs.Yteefneemmdfncaa.M
open Go.RowKit Go.Proofs.YteefneemmdfncaaW.Raw Go.Proofs.YteefneemmdfncaaW.PrintWords Go.Proofs.Yteefneemmdfncaa.F
set_option linter.unusedVariables false
attribute [local go_sem] run_store_float
structure OkP (p : Pol) : Prop where
  s : p.f5.length + p.f6.length ≤ 16777215
  o : p.f7.length + p.f8.length ≤ 16777215
  r : p.f9.length ≤ 16777216
  a : p.f0.length ≤ 16777216
  u : p.f1.length ≤ 16777216
  b : p.f3.length ≤ 16777216
def SubP (p : Pol) (n : ByteArray) (W : World) (nm : ByteArray) (tr : Nat) (mo : Option Nat) (ok : Bool) : Prop := (ok = false ∧ trustOf p.f1 n = none) ∨ ∃ m, ok = true ∧ nm = n ∧ mo = some m ∧ trustOf p.f1 n = some tr ∧ SetOf W m (upS p n)
def ObjP (p : Pol) (n : ByteArray) (W : World) (nm : ByteArray) (tr : Nat) (mo : Option Nat) (ok : Bool) : Prop := (ok = false ∧ memB p.f3 n = false) ∨ ∃ m, ok = true ∧ nm = n ∧ tr = 0 ∧ mo = some m ∧ memB p.f3 n = true ∧ SetOf W m (upO p n)
theorem SubP.below {p : Pol} {n : ByteArray} {W W' : World} {nm : ByteArray} {tr : Nat} {mo : Option Nat} {ok : Bool} (h : SubP p n W nm tr mo ok) (hb : Below W.heap.size W W') : SubP p n W' nm tr mo ok := by
  rcases h with h | ⟨m, h1, h2, h3, h4, h5⟩
  · exact .inl h
  · exact .inr ⟨m, h1, h2, h3, h4, IsRaw.below h5 hb⟩
theorem ObjP.below {p : Pol} {n : ByteArray} {W W' : World} {nm : ByteArray} {tr : Nat} {mo : Option Nat} {ok : Bool} (h : ObjP p n W nm tr mo ok) (hb : Below W.heap.size W W') : ObjP p n W' nm tr mo ok := by
  rcases h with h | ⟨m, h1, h2, h3, h4, h5, h6⟩
  · exact .inl h
  · exact .inr ⟨m, h1, h2, h3, h4, h5, IsRaw.below h6 hb⟩
end Go.Proofs.Yteefneemmdfncaa.M
namespace Go.Proofs.Yteefneemmdfncaa.M
open Go.RowKit Go.Proofs.YteefneemmdfncaaW.Raw Go.Proofs.YteefneemmdfncaaW.PrintWords Go.Proofs.Yteefneemmdfncaa.F
set_option linter.unusedVariables false
attribute [local go_sem] run_store_float
attribute [local go_sem ↓] Go.wp_at_zero Go.wp_at_succ
end Go.Proofs.Yteefneemmdfncaa.M
