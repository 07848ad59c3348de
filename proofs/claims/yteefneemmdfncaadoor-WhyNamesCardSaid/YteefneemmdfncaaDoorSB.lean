import Derived.Test.YteefneemmdfncaaDoorSA
import Derived.Test.YteefneemmdfncaaDoorF5
/- mean.allows: rules that speak of a subject and an object, of a triple. Conditions: each theorem's own.
mean.Matches. Conditions: the policy reads as it must; its pairs are at most 16777215, either side.
mean.Allows. Conditions: the policy reads as it must; its pairs are at most 16777215, either side. -/
namespace Go.Proofs.YteefneemmdfncaaDoor.M
open Go.RowKit Go.Proofs.YteefneemmdfncaaDoorW.Raw Go.Proofs.YteefneemmdfncaaDoorW.PrintWords Go.Proofs.YteefneemmdfncaaDoor.F
set_option linter.unusedVariables false
attribute [local go_sem] run_store_float
abbrev triV (t : Tri) : Value := .agg #[.string t.f0, .string t.f1, .string t.f2]
theorem names_calls (r : Rule) (c : Array Value) (a : ByteArray) (w : World) (hk : k48.K w r c.toList) :
    Calls Tryd.prog 77 #[.agg c, .string a] w fun e w' => e = .returned (.bool (namesB r a)) ∧ Below w.heap.size w w' := by
  obtain ⟨A3, c3, e, l3, g3⟩ := k48_open hk
  obtain rfl : c = #[.bool r.f0, .string r.f1, .string r.f2, .slice A3 r.f3.length c3, .int .i8 r.f4, .float .f64 r.f5] := by cases c; simpa using e
  refine mean_names.calls (r.f3.length + 1) r.f0 r.f1 r.f2 A3 c3 r.f3 r.f4 r.f5 a _ w g3 l3 ?_
  unfold mean_names.f namesB
  by_cases h0 : r.f3 = []
  · rw [h0]; rfl
  · rw [if_neg (by intro e; apply h0; exact List.eq_nil_of_length_eq_zero (by omega)), contains_f _ _ g3.2.1]
    simp only [Option.bind_some]
    cases hq : r.f3 with
    | nil => exact absurd hq h0
    | cons x xs => rfl
theorem idx_ev (l : List Tri) (t : Tri) (hl : l.length ≤ 9223372036854775807) (d : Nat) : ∀ (k i : Nat), i ≤ l.length → l.length - i = d → d < k →
    ∃ r, api_Triple_95.l0 k l (l.length : Int) (i : Int) t.f0 t.f1 t.f2 = some r ∧ (decide (r ≥ 0) = (l.drop i).any fun u => eqT t u) := by
  induction d with
  | zero =>
    intro k i h1 hd hk
    obtain ⟨k, rfl⟩ : ∃ m, k = m + 1 := ⟨k - 1, by omega⟩
    refine ⟨-1, by simp only [api_Triple_95.l0]; rw [if_neg (by omega)], ?_⟩
    rw [List.drop_of_length_le (by omega)]
    rfl
  | succ d ih =>
    intro k i h1 hd hk
    obtain ⟨k, rfl⟩ : ∃ m, k = m + 1 := ⟨k - 1, by omega⟩
    have hlt : i < l.length := by omega
    have hg : rd_T30 l (i : Int) = l[i] := by simp [rd_T30, hlt]
    have hdr : l.drop i = l[i] :: l.drop (i + 1) := List.drop_eq_getElem_cons hlt
    simp only [api_Triple_95.l0]
    rw [if_pos (by omega), if_pos (by omega), if_pos (by omega), hg]
    have hE : (t.f0.toList == l[i].f0.toList && (t.f1.toList == l[i].f1.toList && (t.f2.toList == l[i].f2.toList))) = eqT t l[i] := by
      unfold eqT
      rw [← Go.beq_toListBytes, ← Go.beq_toListBytes, ← Go.beq_toListBytes, Bool.and_assoc]
    rw [hE]
    cases he : eqT t l[i] with
    | true =>
      rw [if_pos rfl]
      refine ⟨i, rfl, ?_⟩
      rw [hdr]
      simp only [List.any_cons, he, Bool.true_or]
      exact decide_eq_true (by omega)
    | false =>
      rw [if_neg (by simp)]
      obtain ⟨r, hr, hm⟩ := ih k (i + 1) (by omega) (by omega) (by omega)
      refine ⟨r, ?_, ?_⟩
      · rw [show wrap64 ((i : Int) + 1) = ((i + 1 : Nat) : Int) from by unfold wrap64; omega]; exact hr
      · rw [hm, hdr]
        simp only [List.any_cons, he, Bool.false_or]
theorem excepts_calls (l : List Tri) (t : Tri) (A : Option Addr) (c : Nat) (w : World) (hr : Kd.C k30 w A l.length l) (hc : l.length ≤ c) :
    Calls Tryd.prog 78 #[.slice A l.length c, triV t] w fun e w' => e = .returned (.bool (l.any fun u => eqT t u)) ∧ Below w.heap.size w w' := by
  refine api_Triple_78.calls (l.length + 1) A c l t.f0 t.f1 t.f2 _ w hr hc ?_
  obtain ⟨r, hr', hm⟩ := idx_ev l t hr.2.1 l.length (l.length + 1) 0 (Nat.zero_le _) (by omega) (by omega)
  unfold api_Triple_78.f api_Triple_95.f
  rw [show (0 : Int) = ((0 : Nat) : Int) from rfl, hr']
  simp only [Option.bind_some]
  rw [show ((0 : Nat) : Int) = (0 : Int) from rfl, hm, List.drop_zero]
set_option maxRecDepth 100000 in
set_option maxHeartbeats 2000000 in
theorem allows_calls (p : Pol) (c : Array Value) (rs : List Rule) (A : Option Addr) (n : Nat) (t : Tri) (w : World) (hk : k28.K w p c.toList) (hr : Kd.C k48 w A rs.length rs) (hc : rs.length ≤ n) :
    Calls Tryd.prog 48 #[.agg c, .slice A rs.length n, triV t] w fun e w' => e = .returned (.bool (allowB rs p.f10 t)) ∧ Below w.heap.size w w' := by
  obtain ⟨A0, c0, A1, c1, A2, c2, A3, c3, A4, c4, A5, c5, A6, c6, A7, c7, A8, c8, A9, c9, A10, c10, e_, l0, g0, l1, g1, l2, g2, l3, g3, l4, g4, l5, g5, l6, g6, l7, g7, l8, g8, l9, g9, l10, g10⟩ := k28_open hk
  obtain rfl : c = #[.slice A0 p.f0.length c0, .slice A1 p.f1.length c1, .slice A2 p.f2.length c2, .slice A3 p.f3.length c3, .slice A4 p.f4.length c4, .slice A5 p.f5.length c5, .slice A6 p.f6.length c6, .slice A7 p.f7.length c7, .slice A8 p.f8.length c8, .slice A9 p.f9.length c9, .slice A10 p.f10.length c10] := by cases c; simpa using e_
  clear e_
  have H10 := Lib.hid g10
  have HRS := Lib.hid hr
  have hmx : rs.length ≤ 9223372036854775807 := hr.2.1
  clear hk g0 g1 g2 g3 g4 g5 g6 g7 g8 g9 g10 l0 l1 l2 l3 l4 l5 l6 l7 l8 l9 hr
  obtain ⟨W1, hW1⟩ : ∃ W1, W1 = (w.alloc (Obj.cells #[Value.slice A0 p.f0.length c0, Value.slice A1 p.f1.length c1, Value.slice A2 p.f2.length c2, Value.slice A3 p.f3.length c3, Value.slice A4 p.f4.length c4, Value.slice A5 p.f5.length c5, Value.slice A6 p.f6.length c6, Value.slice A7 p.f7.length c7, Value.slice A8 p.f8.length c8, Value.slice A9 p.f9.length c9, Value.slice A10 p.f10.length c10] 28)).alloc (Obj.cells #[Value.string t.f0, Value.string t.f1, Value.string t.f2] 30) := ⟨_, rfl⟩
  have hb : Below w.heap.size w W1 := by rw [hW1]; exact ((Below.refl _ w).alloc (Nat.le_refl _) _).alloc (by simp) _
  have r0 : W1.heap[w.heap.size]? = some (.cells #[Value.slice A0 p.f0.length c0, Value.slice A1 p.f1.length c1, Value.slice A2 p.f2.length c2, Value.slice A3 p.f3.length c3, Value.slice A4 p.f4.length c4, Value.slice A5 p.f5.length c5, Value.slice A6 p.f6.length c6, Value.slice A7 p.f7.length c7, Value.slice A8 p.f8.length c8, Value.slice A9 p.f9.length c9, Value.slice A10 p.f10.length c10] 28 (0, 0)) := by rw [hW1]; exact (heap_old _ _ (by simp)).trans (heap_new _ _)
  have r1 : W1.heap[w.heap.size + 1]? = some (.cells #[Value.string t.f0, Value.string t.f1, Value.string t.f2] 30 (0, 0)) := by
    rw [hW1]
    have := heap_new (w.alloc (Obj.cells #[Value.slice A0 p.f0.length c0, Value.slice A1 p.f1.length c1, Value.slice A2 p.f2.length c2, Value.slice A3 p.f3.length c3, Value.slice A4 p.f4.length c4, Value.slice A5 p.f5.length c5, Value.slice A6 p.f6.length c6, Value.slice A7 p.f7.length c7, Value.slice A8 p.f8.length c8, Value.slice A9 p.f9.length c9, Value.slice A10 p.f10.length c10] 28)) (Obj.cells #[Value.string t.f0, Value.string t.f1, Value.string t.f2] 30)
    rwa [size_new] at this
  have HW1 := Lib.hid hW1
  have HB := Lib.hid hb
  have R0 := Lib.hid r0
  have R1 := Lib.hid r1
  clear hW1 hb r0 r1
  go_enter Tryd.func48, Tryd.ntmps48
  go_wp2_with fail
  rw [← HW1.out]
  obtain ⟨Y, hY⟩ : ∃ Y : Nat → Bool, Y = fun k => (rs.take k).any fun r => namesB r t.f2 := ⟨_, rfl⟩
  have HY := Lib.hid hY
  clear hY
  go_loopw [7, 12] (fun v i wr => ∃ k : Nat, k ≤ rs.length ∧ i = .int .i64 (k : Nat) ∧ v = .bool (Y k) ∧ Hid ((rs.take k).any (fun r => namesB r t.f2 && r.f0) = false) ∧ Below W1.heap.size W1 wr) (fun _ i _ => rs.length - (intOf i).toNat)
  case atStart => exact ⟨0, Nat.zero_le _, rfl, by rw [HY.out]; rfl, Lib.hid rfl, Below.refl _ _⟩
  case round =>
    obtain ⟨k, hk, rfl, rfl, HD, hB⟩ := hrel
    obtain ⟨yk, hyk⟩ : ∃ yk, yk = Y k := ⟨_, rfl⟩
    rw [← hyk]
    by_cases hlt : k < rs.length
    · obtain ⟨ad, A3', c3', rfl, q0, q1, q2, q3, q4, q5, hl3, hc3⟩ := at_T48 (Kd.C_below HRS.out (HB.out.trans (hB.mono HB.out.size))) (k : Int) (by omega) (by omega)
      obtain ⟨r, hr⟩ : ∃ r, r = rd_T48 rs (k : Int) := ⟨_, rfl⟩
      rw [← hr] at q0 q1 q2 q3 q4 q5 hl3 hc3
      rw [Int.toNat_natCast] at q0 q1 q2 q3 q4 q5
      have hkr : rs[k]? = some r := by rw [hr]; simp [rd_T48, List.getD_eq_getElem?_getD, hlt]
      have htk : rs.take (k + 1) = rs.take k ++ [r] := by rw [List.take_add_one, hkr]; rfl
      obtain ⟨W2, hW2⟩ : ∃ W2, W2 = wr.alloc (Obj.cells #[Value.bool r.f0, Value.string r.f1, Value.string r.f2, Value.slice A3' r.f3.length c3', Value.int .i8 r.f4, Value.float .f64 r.f5] 48) := ⟨_, rfl⟩
      have hb2 : Below wr.heap.size wr W2 := by rw [hW2]; exact (Below.refl _ _).alloc (Nat.le_refl _) _
      have hbx := hB.trans (hb2.mono hB.size)
      have hr2 : W2.heap[wr.heap.size]? = some (.cells #[Value.bool r.f0, Value.string r.f1, Value.string r.f2, Value.slice A3' r.f3.length c3', Value.int .i8 r.f4, Value.float .f64 r.f5] 48 (0, 0)) := by rw [hW2]; exact heap_new _ _
      have y1 := (hbx.block _ (lt_of_get R1.out)).trans R1.out
      have e12 := (blk_cell y1 2).trans (Eq.refl (some (Value.string t.f2)))
      have HKR := Lib.hid (k48.K_below hb2 (k48_mk wr r hl3 hc3))
      have HB2 := Lib.hid hb2
      have HBX := Lib.hid hbx
      have HR2 := Lib.hid hr2
      have HB' := Lib.hid hB
      have HT := Lib.hid htk
      have HKN := Lib.hid hkr
      have HYK := Lib.hid hyk
      rw [hW2] at e12
      clear hr hkr htk hb2 hbx hr2 y1 hl3 hc3 hB hyk
      go_wp2_with fail
      rw [← hW2]
      clear hW2 e12
      refine (names_calls r _ t.f2 W2 HKR.out).mono ?_
      rintro e W3 ⟨rfl, hb3⟩
      have y0 := (hb3.block _ (lt_of_get HR2.out)).trans HR2.out
      have f0 := (blk_cell y0 0).trans (Eq.refl (some (Value.bool r.f0)))
      have HB3 := Lib.hid (HBX.out.trans (hb3.mono HBX.out.size))
      clear hb3 y0
      cases hq : namesB r t.f2 with
      | false =>
        have HQ := Lib.hid hq
        clear hq
        go_wp2
        go_roundw
        case rel => exact ⟨k + 1, hlt, by go_num, by rw [HY.out, HYK.out, HY.out]; simp [HT.out, HQ.out], Lib.hid (by rw [HT.out]; simp [HD.out, HQ.out]), HB3.out⟩
        case measure => simp [intOf]; omega
      | true =>
        have HQ := Lib.hid hq
        clear hq
        cases hd : r.f0 with
        | true =>
          have HDD := Lib.hid hd
          rw [hd] at f0
          clear hd
          go_wp2
          go_ret
          refine ⟨?_, HB.out.trans (HB3.out.mono HB.out.size)⟩
          have h1 : (rs.any fun r => namesB r t.f2 && r.f0) = true := by
            rw [List.any_eq_true]
            exact ⟨r, List.mem_iff_getElem?.2 ⟨k, HKN.out⟩, by rw [HQ.out, HDD.out]; rfl⟩
          unfold allowB
          rw [h1]
          simp
        | false =>
          have HDD := Lib.hid hd
          rw [hd] at f0
          clear hd
          go_wp2
          go_roundw
          case rel => exact ⟨k + 1, hlt, by go_num, by rw [HY.out]; simp [HT.out, HQ.out], Lib.hid (by rw [HT.out]; simp [HD.out, HDD.out]), HB3.out⟩
          case measure => simp [intOf]; omega
    · obtain rfl : k = rs.length := by omega
      have HB' := Lib.hid hB
      have HYK := Lib.hid hyk
      have y0 := (hB.block _ (lt_of_get R0.out)).trans R0.out
      have y1 := (hB.block _ (lt_of_get R1.out)).trans R1.out
      have e10 := (blk_cell y0 10).trans (Eq.refl (some (Value.slice A10 p.f10.length c10)))
      have f10 := (blk_cell y1 0).trans (Eq.refl (some (Value.string t.f0)))
      have f11 := (blk_cell y1 1).trans (Eq.refl (some (Value.string t.f1)))
      have f12 := (blk_cell y1 2).trans (Eq.refl (some (Value.string t.f2)))
      clear hB hyk y0 y1
      cases hy : yk with
      | false =>
        have HYY := Lib.hid hy
        clear hy
        go_wp2
        go_ret
        refine ⟨?_, HB.out.trans (HB'.out.mono HB.out.size)⟩
        have h1 : (rs.any fun r => namesB r t.f2) = false := by
          have := HYK.out
          rw [HYY.out, HY.out] at this
          simpa using this.symm
        unfold allowB
        rw [h1]
        simp
      | true =>
        have HYY := Lib.hid hy
        clear hy
        go_wp2_with fail
        refine (excepts_calls p.f10 t A10 c10 wr (Kd.C_below H10.out (HB.out.trans (HB'.out.mono HB.out.size))) l10).mono ?_
        rintro e W5 ⟨rfl, hb5⟩
        have HB5 := Lib.hid hb5
        clear hb5
        go_wp2
        go_ret
        refine ⟨?_, (HB.out.trans (HB'.out.mono HB.out.size)).trans (HB5.out.mono (HB.out.trans (HB'.out.mono HB.out.size)).size)⟩
        have h1 : (rs.any fun r => namesB r t.f2) = true := by
          have := HYK.out
          rw [HYY.out, HY.out] at this
          simpa using this.symm
        have h2 : (rs.any fun r => namesB r t.f2 && r.f0) = false := by have := HD.out; rwa [List.take_length] at this
        unfold allowB
        rw [h1, h2]
        simp
end Go.Proofs.YteefneemmdfncaaDoor.M
namespace Go.Proofs.YteefneemmdfncaaDoor.M
open Go.RowKit Go.Proofs.YteefneemmdfncaaDoorW.Raw Go.Proofs.YteefneemmdfncaaDoorW.PrintWords Go.Proofs.YteefneemmdfncaaDoor.F
set_option linter.unusedVariables false
attribute [local go_sem] run_store_float
structure OkP (p : Pol) : Prop where
  s : p.f5.length + p.f6.length ≤ 16777215
  o : p.f7.length + p.f8.length ≤ 16777215
  r : p.f9.length ≤ 16777216
  a : p.f0.length ≤ 16777216
  u : p.f1.length ≤ 16777216
  b : p.f3.length ≤ 16777216
def SubP (p : Pol) (n : ByteArray) (W : World) (nm : ByteArray) (tr : Nat) (mo : Option Nat) (ok : Bool) : Prop := (ok = false ∧ trustOf p.f1 n = none) ∨ ∃ m, ok = true ∧ nm = n ∧ mo = some m ∧ trustOf p.f1 n = some tr ∧ SetOf W m (upS p n)
def ObjP (p : Pol) (n : ByteArray) (W : World) (nm : ByteArray) (tr : Nat) (mo : Option Nat) (ok : Bool) : Prop := (ok = false ∧ memB p.f3 n = false) ∨ ∃ m, ok = true ∧ nm = n ∧ tr = 0 ∧ mo = some m ∧ memB p.f3 n = true ∧ SetOf W m (upO p n)
theorem SubP.below {p : Pol} {n : ByteArray} {W W' : World} {nm : ByteArray} {tr : Nat} {mo : Option Nat} {ok : Bool} (h : SubP p n W nm tr mo ok) (hb : Below W.heap.size W W') : SubP p n W' nm tr mo ok := by
  rcases h with h | ⟨m, h1, h2, h3, h4, h5⟩
  · exact .inl h
  · exact .inr ⟨m, h1, h2, h3, h4, IsRaw.below h5 hb⟩
theorem ObjP.below {p : Pol} {n : ByteArray} {W W' : World} {nm : ByteArray} {tr : Nat} {mo : Option Nat} {ok : Bool} (h : ObjP p n W nm tr mo ok) (hb : Below W.heap.size W W') : ObjP p n W' nm tr mo ok := by
  rcases h with h | ⟨m, h1, h2, h3, h4, h5, h6⟩
  · exact .inl h
  · exact .inr ⟨m, h1, h2, h3, h4, h5, IsRaw.below h6 hb⟩
theorem subject_any (p : Pol) (c : Array Value) (n : ByteArray) (w : World) (hk : k28.K w p c.toList) (hn : OkP p) :
    Calls Tryd.prog 45 #[.agg c, .string n] w fun e w' => ∃ nm tr mo ok, e = .returned (.tuple #[.agg #[.string nm, .float .f64 tr, .map mo], .bool ok]) ∧ SubP p n w' nm tr mo ok ∧ Below w.heap.size w w' :=
  (subject_calls p c n w hk hn.s).mono fun e w' ⟨hb, h⟩ => by
    rcases h with ⟨h, rfl⟩ | ⟨tr, m, h, rfl, hs, _⟩
    · exact ⟨_, _, _, _, rfl, .inl ⟨rfl, h⟩, hb⟩
    · exact ⟨_, _, _, _, rfl, .inr ⟨m, rfl, rfl, rfl, h, hs⟩, hb⟩
theorem object_any (p : Pol) (c : Array Value) (n : ByteArray) (w : World) (hk : k28.K w p c.toList) (hn : OkP p) :
    Calls Tryd.prog 46 #[.agg c, .string n] w fun e w' => ∃ nm tr mo ok, e = .returned (.tuple #[.agg #[.string nm, .float .f64 tr, .map mo], .bool ok]) ∧ ObjP p n w' nm tr mo ok ∧ Below w.heap.size w w' :=
  (object_calls p c n w hk hn.o).mono fun e w' ⟨hb, h⟩ => by
    rcases h with ⟨h, rfl⟩ | ⟨m, h, rfl, hs, _⟩
    · exact ⟨_, _, _, _, rfl, .inl ⟨rfl, h⟩, hb⟩
    · exact ⟨_, _, _, _, rfl, .inr ⟨m, rfl, rfl, rfl, rfl, h, hs⟩, hb⟩
set_option maxRecDepth 100000 in
set_option maxHeartbeats 4000000 in
theorem matches_calls (p : Pol) (c cr : Array Value) (r : Rule) (t : Tri) (w : World) (hk : k28.K w p c.toList) (hkr : k48.K w r cr.toList) (hn : OkP p) :
    Calls Tryd.prog 51 #[.agg c, .agg cr, triV t] w fun e w' => e = .returned (.bool (matchB p r t)) ∧ Below w.heap.size w w' := by
  have HK0 := Lib.hid hk
  have HKR0 := Lib.hid hkr
  obtain ⟨A0, c0, A1, c1, A2, c2, A3, c3, A4, c4, A5, c5, A6, c6, A7, c7, A8, c8, A9, c9, A10, c10, e_, l0, g0, l1, g1, l2, g2, l3, g3, l4, g4, l5, g5, l6, g6, l7, g7, l8, g8, l9, g9, l10, g10⟩ := k28_open hk
  obtain rfl : c = #[.slice A0 p.f0.length c0, .slice A1 p.f1.length c1, .slice A2 p.f2.length c2, .slice A3 p.f3.length c3, .slice A4 p.f4.length c4, .slice A5 p.f5.length c5, .slice A6 p.f6.length c6, .slice A7 p.f7.length c7, .slice A8 p.f8.length c8, .slice A9 p.f9.length c9, .slice A10 p.f10.length c10] := by cases c; simpa using e_
  clear e_
  obtain ⟨AR, cR, e, lr, gr⟩ := k48_open hkr
  obtain rfl : cr = #[.bool r.f0, .string r.f1, .string r.f2, .slice AR r.f3.length cR, .int .i8 r.f4, .float .f64 r.f5] := by cases cr; simpa using e
  have H0 := Lib.hid g0
  have HN := Lib.hid hn
  clear e hk hkr g0 g1 g2 g3 g4 g5 g6 g7 g8 g9 g10 l1 l2 l3 l4 l5 l6 l7 l8 l9 l10 gr lr hn
  obtain ⟨W1, hW1⟩ : ∃ W1, W1 = ((w.alloc (Obj.cells #[Value.slice A0 p.f0.length c0, Value.slice A1 p.f1.length c1, Value.slice A2 p.f2.length c2, Value.slice A3 p.f3.length c3, Value.slice A4 p.f4.length c4, Value.slice A5 p.f5.length c5, Value.slice A6 p.f6.length c6, Value.slice A7 p.f7.length c7, Value.slice A8 p.f8.length c8, Value.slice A9 p.f9.length c9, Value.slice A10 p.f10.length c10] 28)).alloc (Obj.cells #[.bool r.f0, .string r.f1, .string r.f2, .slice AR r.f3.length cR, .int .i8 r.f4, .float .f64 r.f5] 48)).alloc (Obj.cells #[Value.string t.f0, Value.string t.f1, Value.string t.f2] 30) := ⟨_, rfl⟩
  have hb : Below w.heap.size w W1 := by rw [hW1]; exact (((Below.refl _ w).alloc (Nat.le_refl _) _).alloc (by simp) _).alloc (by simp <;> omega) _
  have r0 : W1.heap[w.heap.size]? = some (.cells #[Value.slice A0 p.f0.length c0, Value.slice A1 p.f1.length c1, Value.slice A2 p.f2.length c2, Value.slice A3 p.f3.length c3, Value.slice A4 p.f4.length c4, Value.slice A5 p.f5.length c5, Value.slice A6 p.f6.length c6, Value.slice A7 p.f7.length c7, Value.slice A8 p.f8.length c8, Value.slice A9 p.f9.length c9, Value.slice A10 p.f10.length c10] 28 (0, 0)) := by rw [hW1]; exact (heap_old _ _ (by simp <;> omega)).trans ((heap_old _ _ (by simp)).trans (heap_new _ _))
  have r1 : W1.heap[w.heap.size + 1]? = some (.cells #[.bool r.f0, .string r.f1, .string r.f2, .slice AR r.f3.length cR, .int .i8 r.f4, .float .f64 r.f5] 48 (0, 0)) := by
    rw [hW1]
    refine (heap_old _ _ (by simp)).trans ?_
    have := heap_new (w.alloc (Obj.cells #[Value.slice A0 p.f0.length c0, Value.slice A1 p.f1.length c1, Value.slice A2 p.f2.length c2, Value.slice A3 p.f3.length c3, Value.slice A4 p.f4.length c4, Value.slice A5 p.f5.length c5, Value.slice A6 p.f6.length c6, Value.slice A7 p.f7.length c7, Value.slice A8 p.f8.length c8, Value.slice A9 p.f9.length c9, Value.slice A10 p.f10.length c10] 28)) (Obj.cells #[.bool r.f0, .string r.f1, .string r.f2, .slice AR r.f3.length cR, .int .i8 r.f4, .float .f64 r.f5] 48)
    rwa [size_new] at this
  have r2 : W1.heap[w.heap.size + 1 + 1]? = some (.cells #[Value.string t.f0, Value.string t.f1, Value.string t.f2] 30 (0, 0)) := by
    rw [hW1]
    have := heap_new ((w.alloc (Obj.cells #[Value.slice A0 p.f0.length c0, Value.slice A1 p.f1.length c1, Value.slice A2 p.f2.length c2, Value.slice A3 p.f3.length c3, Value.slice A4 p.f4.length c4, Value.slice A5 p.f5.length c5, Value.slice A6 p.f6.length c6, Value.slice A7 p.f7.length c7, Value.slice A8 p.f8.length c8, Value.slice A9 p.f9.length c9, Value.slice A10 p.f10.length c10] 28)).alloc (Obj.cells #[.bool r.f0, .string r.f1, .string r.f2, .slice AR r.f3.length cR, .int .i8 r.f4, .float .f64 r.f5] 48)) (Obj.cells #[Value.string t.f0, Value.string t.f1, Value.string t.f2] 30)
    rwa [size_new, size_new] at this
  have HW1 := Lib.hid hW1
  have HB := Lib.hid hb
  have R0 := Lib.hid r0
  have R1 := Lib.hid r1
  have R2 := Lib.hid r2
  clear hW1 hb r0 r1 r2
  go_enter Tryd.func51, Tryd.ntmps51
  go_wp2_with fail
  rw [← HW1.out]
  refine (subject_any p _ t.f0 W1 (k28.K_below HB.out HK0.out) HN.out).mono ?_
  rintro e W2 ⟨nm, tr, mo, ok, rfl, hS, hb2⟩
  obtain ⟨W3, hW3⟩ : ∃ W3, W3 = W2.alloc (Obj.cells #[Value.string nm, Value.float .f64 tr, Value.map mo] 74) := ⟨_, rfl⟩
  have hb3 : Below W1.heap.size W1 W3 := by rw [hW3]; exact hb2.alloc hb2.size _
  have hl2 : W2.heap.size < W3.heap.size := by rw [hW3]; simp
  have hs3 : W3.heap[W2.heap.size]? = some (.cells #[Value.string nm, Value.float .f64 tr, Value.map mo] 74 (0, 0)) := by rw [hW3]; exact heap_new _ _
  have hS3 : SubP p t.f0 W3 nm tr mo ok := hS.below (by rw [hW3]; exact (Below.refl _ _).alloc (Nat.le_refl _) _)
  have y0 := (hb3.block _ (lt_of_get R0.out)).trans R0.out
  have y2 := (hb3.block _ (lt_of_get R2.out)).trans R2.out
  have q0 := (blk_cell y0 0).trans (Eq.refl (some (Value.slice A0 p.f0.length c0)))
  have q1 := (blk_cell y0 1).trans (Eq.refl (some (Value.slice A1 p.f1.length c1)))
  have q2 := (blk_cell y0 2).trans (Eq.refl (some (Value.slice A2 p.f2.length c2)))
  have q3 := (blk_cell y0 3).trans (Eq.refl (some (Value.slice A3 p.f3.length c3)))
  have q4 := (blk_cell y0 4).trans (Eq.refl (some (Value.slice A4 p.f4.length c4)))
  have q5 := (blk_cell y0 5).trans (Eq.refl (some (Value.slice A5 p.f5.length c5)))
  have q6 := (blk_cell y0 6).trans (Eq.refl (some (Value.slice A6 p.f6.length c6)))
  have q7 := (blk_cell y0 7).trans (Eq.refl (some (Value.slice A7 p.f7.length c7)))
  have q8 := (blk_cell y0 8).trans (Eq.refl (some (Value.slice A8 p.f8.length c8)))
  have q9 := (blk_cell y0 9).trans (Eq.refl (some (Value.slice A9 p.f9.length c9)))
  have q10 := (blk_cell y0 10).trans (Eq.refl (some (Value.slice A10 p.f10.length c10)))
  have u0 := (blk_cell y2 0).trans (Eq.refl (some (Value.string t.f0)))
  have u1 := (blk_cell y2 1).trans (Eq.refl (some (Value.string t.f1)))
  have u2 := (blk_cell y2 2).trans (Eq.refl (some (Value.string t.f2)))
  have HB3 := Lib.hid hb3
  have HS3 := Lib.hid hs3
  have HSP := Lib.hid hS3
  have HW3 := Lib.hid hW3
  rw [hW3] at q0 q1 q2 q3 q4 q5 q6 q7 q8 q9 q10 u0 u1 u2
  clear hW3 hb3 hs3 hS3 hS hb2 y0 y2
  have Q0 := q0
  go_wp2_with fail
  rw [← HW3.out]
  clear Q0 q0 q1 q2 q3 q4 q5 q6 q7 q8 q9 q10 u0 u1 u2
  refine (object_any p _ t.f1 W3 (k28.K_below (HB.out.trans (HB3.out.mono HB.out.size)) HK0.out) HN.out).mono ?_
  rintro e W4 ⟨nm', tr', mo', is, rfl, hO, hb4⟩
  obtain ⟨W5, hW5⟩ : ∃ W5, W5 = W4.alloc (Obj.cells #[Value.string nm', Value.float .f64 tr', Value.map mo'] 74) := ⟨_, rfl⟩
  have hb5 : Below W3.heap.size W3 W5 := by rw [hW5]; exact hb4.alloc hb4.size _
  have hs5 : W5.heap[W4.heap.size]? = some (.cells #[Value.string nm', Value.float .f64 tr', Value.map mo'] 74 (0, 0)) := by rw [hW5]; exact heap_new _ _
  have hO5 : ObjP p t.f1 W5 nm' tr' mo' is := hO.below (by rw [hW5]; exact (Below.refl _ _).alloc (Nat.le_refl _) _)
  have hb15 : Below W1.heap.size W1 W5 := HB3.out.trans (hb5.mono HB3.out.size)
  have y0 := (hb15.block _ (lt_of_get R0.out)).trans R0.out
  have y2 := (hb15.block _ (lt_of_get R2.out)).trans R2.out
  have q0 := (blk_cell y0 0).trans (Eq.refl (some (Value.slice A0 p.f0.length c0)))
  have u2 := (blk_cell y2 2).trans (Eq.refl (some (Value.string t.f2)))
  have HB5 := Lib.hid hb15
  have HY1 := Lib.hid ((hb15.block _ (lt_of_get R1.out)).trans R1.out)
  have HY2 := Lib.hid y2
  have HSA := Lib.hid ((hb5.block _ (lt_of_get HS3.out)).trans HS3.out)
  have HSB := Lib.hid hs5
  have HSP5 := Lib.hid (HSP.out.below hb5)
  have HOP5 := Lib.hid hO5
  have HW5 := Lib.hid hW5
  have HBw := Lib.hid (HB.out.trans (hb15.mono HB.out.size))
  rw [hW5] at q0 u2
  clear hW5 hb5 hs5 hO5 hO hb4 y0 y2 hl2 hb15
  cases ok with
  | false =>
    have hF : matchB p r t = false := by
      rcases HSP5.out with ⟨_, h⟩ | ⟨_, h, _⟩
      · simp [matchB, h]
      · cases h
    have HF := Lib.hid hF
    clear hF q0 u2
    go_wp2
    go_ret
    rw [← HW5.out]
    exact ⟨by rw [HF.out]; rfl, HBw.out⟩
  | true =>
    obtain ⟨m1, h1, rfl, rfl, htr, hset1⟩ : ∃ m, true = true ∧ nm = t.f0 ∧ mo = some m ∧ trustOf p.f1 t.f0 = some tr ∧ SetOf W5 m (upS p t.f0) := by
      rcases HSP5.out with ⟨h, _⟩ | h
      · cases h
      · exact h
    clear h1
    have HTR := Lib.hid htr
    have HSET1 := Lib.hid hset1
    clear htr hset1
    cases is with
    | false =>
      have hF : matchB p r t = false := by
        rcases HOP5.out with ⟨_, h⟩ | ⟨_, h, _⟩
        · simp [matchB, HTR.out, h]
        · cases h
      have HF := Lib.hid hF
      clear hF q0 u2
      go_wp2
      go_ret
      rw [← HW5.out]
      exact ⟨by rw [HF.out]; rfl, HBw.out⟩
    | true =>
      obtain ⟨m2, h1, rfl, rfl, rfl, hob, hset2⟩ : ∃ m, true = true ∧ nm' = t.f1 ∧ tr' = 0 ∧ mo' = some m ∧ memB p.f3 t.f1 = true ∧ SetOf W5 m (upO p t.f1) := by
        rcases HOP5.out with ⟨h, _⟩ | h
        · cases h
        · exact h
      clear h1
      have HOB := Lib.hid hob
      have HSET2 := Lib.hid hset2
      clear hob hset2
      go_wp2_with fail
      rw [← HW5.out]
      clear q0 u2
      refine (contains_calls p.f0 t.f2 A0 c0 W5 (Kd.C_below H0.out HBw.out) l0).mono ?_
      rintro e W6 ⟨rfl, nd, hnd⟩
      have hb6 : Below W5.heap.size W5 W6 := by rw [hnd]; exact pw_below_drewN (Below.refl _ _) nd
      clear hnd
      have y1 := (hb6.block _ (lt_of_get HY1.out)).trans HY1.out
      have y2 := (hb6.block _ (lt_of_get HY2.out)).trans HY2.out
      have a0 := (blk_cell y1 0).trans (Eq.refl (some (Value.bool r.f0)))
      have a1 := (blk_cell y1 1).trans (Eq.refl (some (Value.string r.f1)))
      have a2 := (blk_cell y1 2).trans (Eq.refl (some (Value.string r.f2)))
      have a3 := (blk_cell y1 3).trans (Eq.refl (some (Value.slice AR r.f3.length cR)))
      have a4 := (blk_cell y1 4).trans (Eq.refl (some (Value.int .i8 r.f4)))
      have a5 := (blk_cell y1 5).trans (Eq.refl (some (Value.float .f64 r.f5)))
      have u2 := (blk_cell y2 2).trans (Eq.refl (some (Value.string t.f2)))
      have HB6 := Lib.hid hb6
      have HBw6 := Lib.hid (HBw.out.trans (hb6.mono HBw.out.size))
      clear hb6 y1 y2
      cases hq : memB p.f0 t.f2 with
      | false =>
        have HF := Lib.hid (show matchB p r t = false from by simp [matchB, HTR.out, HOB.out, hq])
        clear hq a0 a1 a2 a3 a4 a5 u2
        go_wp2
        go_ret
        exact ⟨by rw [HF.out]; rfl, HBw6.out⟩
      | true =>
        have HQ := Lib.hid hq
        clear hq
        go_wp2_with fail
        clear a0 a1 a2 a3 a4 a5 u2
        refine (names_calls r _ t.f2 W6 (k48.K_below HBw6.out HKR0.out)).mono ?_
        rintro e W7 ⟨rfl, hb7⟩
        have hb57 := HB6.out.trans (hb7.mono HB6.out.size)
        have y1 := (hb57.block _ (lt_of_get HY1.out)).trans HY1.out
        have ya := (hb57.block _ (lt_of_get HSA.out)).trans HSA.out
        have yb := (hb57.block _ (lt_of_get HSB.out)).trans HSB.out
        have a0 := (blk_cell y1 0).trans (Eq.refl (some (Value.bool r.f0)))
        have a1 := (blk_cell y1 1).trans (Eq.refl (some (Value.string r.f1)))
        have a2 := (blk_cell y1 2).trans (Eq.refl (some (Value.string r.f2)))
        have a3 := (blk_cell y1 3).trans (Eq.refl (some (Value.slice AR r.f3.length cR)))
        have a4 := (blk_cell y1 4).trans (Eq.refl (some (Value.int .i8 r.f4)))
        have a5 := (blk_cell y1 5).trans (Eq.refl (some (Value.float .f64 r.f5)))
        have sa0 := (blk_cell ya 0).trans (Eq.refl (some (Value.string t.f0)))
        have sa1 := (blk_cell ya 1).trans (Eq.refl (some (Value.float .f64 tr)))
        have sa2 := (blk_cell ya 2).trans (Eq.refl (some (Value.map (some m1))))
        have sb0 := (blk_cell yb 0).trans (Eq.refl (some (Value.string t.f1)))
        have sb1 := (blk_cell yb 1).trans (Eq.refl (some (Value.float .f64 0)))
        have sb2 := (blk_cell yb 2).trans (Eq.refl (some (Value.map (some m2))))
        have HB57 := Lib.hid hb57
        have HBw7 := Lib.hid (HBw.out.trans (hb57.mono HBw.out.size))
        clear hb7 hb57 y1 ya yb
        cases hq : namesB r t.f2 with
        | false =>
          have HF := Lib.hid (show matchB p r t = false from by simp [matchB, HTR.out, hq])
          clear hq a0 a1 a2 a3 a4 a5 sa0 sa1 sa2 sb0 sb1 sb2
          go_wp2
          go_ret
          exact ⟨by rw [HF.out]; rfl, HBw7.out⟩
        | true =>
          have HQ2 := Lib.hid hq
          clear hq
          go_wp2_with fail
          clear a0 a1 a2 a3 a4 a5 sa0 sa1 sa2 sb0 sb1 sb2
          refine (speaks_calls r _ t.f0 t.f1 tr 0 m1 m2 (upS p t.f0) (upO p t.f1) W7 (k48.K_below HBw7.out HKR0.out) (IsRaw.below HSET1.out HB57.out) (IsRaw.below HSET2.out HB57.out)).mono ?_
          rintro e W8 ⟨rfl, hb8⟩
          have HB8 := Lib.hid hb8
          have HF := Lib.hid (show matchB p r t = speakB r tr (upS p t.f0) (upO p t.f1) from by simp [matchB, HTR.out, HOB.out, HQ.out, HQ2.out])
          clear hb8
          go_wp2
          go_ret
          exact ⟨by rw [HF.out]; rfl, HBw7.out.trans (HB8.out.mono HBw7.out.size)⟩
end Go.Proofs.YteefneemmdfncaaDoor.M
namespace Go.Proofs.YteefneemmdfncaaDoor.M
open Go.RowKit Go.Proofs.YteefneemmdfncaaDoorW.Raw Go.Proofs.YteefneemmdfncaaDoorW.PrintWords Go.Proofs.YteefneemmdfncaaDoor.F
set_option linter.unusedVariables false
attribute [local go_sem] run_store_float
attribute [local go_sem ↓] Go.wp_at_zero Go.wp_at_succ
theorem below_like {B : Nat} {w W W' : World} (h : Below B w W) (h1 : W'.os = W.os) (h2 : W'.tape = W.tape) (h3 : W'.output = W.output) (h4 : W'.heap = W.heap) : Below B w W' :=
  ⟨h1.trans h.os, h2.trans h.tape, h3.trans h.output, by rw [h4]; exact h.size, fun i hi => by rw [h4]; exact h.block i hi⟩
theorem below_on {w W W' w7 : World} (h : Below w.heap.size w W) (k : Below W'.heap.size W' w7) (h1 : W'.os = W.os) (h2 : W'.tape = W.tape) (h3 : W'.output = W.output) (h4 : W'.heap = W.heap) : Below w.heap.size w w7 :=
  (below_like h h1 h2 h3 h4).trans (k.mono (below_like h h1 h2 h3 h4).size)
theorem allows_cells {p : Pol} {t : Tri} {tr m1 m2 : Nat} {A0 : Option Addr} {c0 : Nat} {A1 : Option Addr} {c1 : Nat} {A2 : Option Addr} {c2 : Nat} {A3 : Option Addr} {c3 : Nat} {A4 : Option Addr} {c4 : Nat} {A5 : Option Addr} {c5 : Nat} {A6 : Option Addr} {c6 : Nat} {A7 : Option Addr} {c7 : Nat} {A8 : Option Addr} {c8 : Nat} {A9 : Option Addr} {c9 : Nat} {A10 : Option Addr} {c10 : Nat} {W : World} {b0 b1 bA bB : Nat} (h0 : W.heap[b0]? = some (.cells #[Value.slice A0 p.f0.length c0, Value.slice A1 p.f1.length c1, Value.slice A2 p.f2.length c2, Value.slice A3 p.f3.length c3, Value.slice A4 p.f4.length c4, Value.slice A5 p.f5.length c5, Value.slice A6 p.f6.length c6, Value.slice A7 p.f7.length c7, Value.slice A8 p.f8.length c8, Value.slice A9 p.f9.length c9, Value.slice A10 p.f10.length c10] 28 (0, 0))) (h1 : W.heap[b1]? = some (.cells #[Value.string t.f0, Value.string t.f1, Value.string t.f2] 30 (0, 0))) (hA : W.heap[bA]? = some (.cells #[Value.string t.f0, Value.float .f64 tr, Value.map (some m1)] 74 (0, 0))) (hB : W.heap[bB]? = some (.cells #[Value.string t.f1, Value.float .f64 0, Value.map (some m2)] 74 (0, 0))) :
    W.cell? ⟨b0, 0, none⟩ = some (.slice A0 p.f0.length c0) ∧ W.cell? ⟨b0, 1, none⟩ = some (.slice A1 p.f1.length c1) ∧ W.cell? ⟨b0, 2, none⟩ = some (.slice A2 p.f2.length c2) ∧ W.cell? ⟨b0, 3, none⟩ = some (.slice A3 p.f3.length c3) ∧ W.cell? ⟨b0, 4, none⟩ = some (.slice A4 p.f4.length c4) ∧ W.cell? ⟨b0, 5, none⟩ = some (.slice A5 p.f5.length c5) ∧ W.cell? ⟨b0, 6, none⟩ = some (.slice A6 p.f6.length c6) ∧ W.cell? ⟨b0, 7, none⟩ = some (.slice A7 p.f7.length c7) ∧ W.cell? ⟨b0, 8, none⟩ = some (.slice A8 p.f8.length c8) ∧ W.cell? ⟨b0, 9, none⟩ = some (.slice A9 p.f9.length c9) ∧ W.cell? ⟨b0, 10, none⟩ = some (.slice A10 p.f10.length c10) ∧ W.cell? ⟨b1, 0, none⟩ = some (.string t.f0) ∧ W.cell? ⟨b1, 1, none⟩ = some (.string t.f1) ∧ W.cell? ⟨b1, 2, none⟩ = some (.string t.f2) ∧ W.cell? ⟨bA, 0, none⟩ = some (.string t.f0) ∧ W.cell? ⟨bA, 1, none⟩ = some (.float .f64 tr) ∧ W.cell? ⟨bA, 2, none⟩ = some (.map (some m1)) ∧ W.cell? ⟨bB, 0, none⟩ = some (.string t.f1) ∧ W.cell? ⟨bB, 1, none⟩ = some (.float .f64 0) ∧ W.cell? ⟨bB, 2, none⟩ = some (.map (some m2)) :=
  ⟨blk_cell h0 0, blk_cell h0 1, blk_cell h0 2, blk_cell h0 3, blk_cell h0 4, blk_cell h0 5, blk_cell h0 6, blk_cell h0 7, blk_cell h0 8, blk_cell h0 9, blk_cell h0 10, blk_cell h1 0, blk_cell h1 1, blk_cell h1 2, blk_cell hA 0, blk_cell hA 1, blk_cell hA 2, blk_cell hB 0, blk_cell hB 1, blk_cell hB 2⟩
set_option maxRecDepth 100000 in
set_option maxHeartbeats 4000000 in
theorem allows_pol_calls (p : Pol) (c : Array Value) (t : Tri) (w : World) (hk : k28.K w p c.toList) (hn : OkP p) :
    Calls Tryd.prog 20 #[.agg c, triV t] w fun e w' => e = .returned (.bool (allowsB p t)) ∧ Below w.heap.size w w' := by
  have HK0 := Lib.hid hk
  obtain ⟨A0, c0, A1, c1, A2, c2, A3, c3, A4, c4, A5, c5, A6, c6, A7, c7, A8, c8, A9, c9, A10, c10, e_, l0, g0, l1, g1, l2, g2, l3, g3, l4, g4, l5, g5, l6, g6, l7, g7, l8, g8, l9, g9, l10, g10⟩ := k28_open hk
  obtain rfl : c = #[.slice A0 p.f0.length c0, .slice A1 p.f1.length c1, .slice A2 p.f2.length c2, .slice A3 p.f3.length c3, .slice A4 p.f4.length c4, .slice A5 p.f5.length c5, .slice A6 p.f6.length c6, .slice A7 p.f7.length c7, .slice A8 p.f8.length c8, .slice A9 p.f9.length c9, .slice A10 p.f10.length c10] := by cases c; simpa using e_
  clear e_
  have H0 := Lib.hid g0
  have HN := Lib.hid hn
  clear hk g0 g1 g2 g3 g4 g5 g6 g7 g8 g9 g10 l1 l2 l3 l4 l5 l6 l7 l8 l9 l10 hn
  obtain ⟨W1, hW1⟩ : ∃ W1, W1 = (w.alloc (Obj.cells #[Value.slice A0 p.f0.length c0, Value.slice A1 p.f1.length c1, Value.slice A2 p.f2.length c2, Value.slice A3 p.f3.length c3, Value.slice A4 p.f4.length c4, Value.slice A5 p.f5.length c5, Value.slice A6 p.f6.length c6, Value.slice A7 p.f7.length c7, Value.slice A8 p.f8.length c8, Value.slice A9 p.f9.length c9, Value.slice A10 p.f10.length c10] 28)).alloc (Obj.cells #[Value.string t.f0, Value.string t.f1, Value.string t.f2] 30) := ⟨_, rfl⟩
  have hb : Below w.heap.size w W1 := by rw [hW1]; exact ((Below.refl _ w).alloc (Nat.le_refl _) _).alloc (by simp) _
  have r0 : W1.heap[w.heap.size]? = some (.cells #[Value.slice A0 p.f0.length c0, Value.slice A1 p.f1.length c1, Value.slice A2 p.f2.length c2, Value.slice A3 p.f3.length c3, Value.slice A4 p.f4.length c4, Value.slice A5 p.f5.length c5, Value.slice A6 p.f6.length c6, Value.slice A7 p.f7.length c7, Value.slice A8 p.f8.length c8, Value.slice A9 p.f9.length c9, Value.slice A10 p.f10.length c10] 28 (0, 0)) := by rw [hW1]; exact (heap_old _ _ (by simp)).trans (heap_new _ _)
  have r2 : W1.heap[w.heap.size + 1]? = some (.cells #[Value.string t.f0, Value.string t.f1, Value.string t.f2] 30 (0, 0)) := by
    rw [hW1]
    have := heap_new (w.alloc (Obj.cells #[Value.slice A0 p.f0.length c0, Value.slice A1 p.f1.length c1, Value.slice A2 p.f2.length c2, Value.slice A3 p.f3.length c3, Value.slice A4 p.f4.length c4, Value.slice A5 p.f5.length c5, Value.slice A6 p.f6.length c6, Value.slice A7 p.f7.length c7, Value.slice A8 p.f8.length c8, Value.slice A9 p.f9.length c9, Value.slice A10 p.f10.length c10] 28)) (Obj.cells #[Value.string t.f0, Value.string t.f1, Value.string t.f2] 30)
    rwa [size_new] at this
  have HW1 := Lib.hid hW1
  have HB := Lib.hid hb
  have R0 := Lib.hid r0
  have R2 := Lib.hid r2
  clear hW1 hb r0 r2
  go_enter Tryd.func20, Tryd.ntmps20
  go_wp2_with fail
  rw [← HW1.out]
  refine (subject_any p _ t.f0 W1 (k28.K_below HB.out HK0.out) HN.out).mono ?_
  rintro e W2 ⟨nm, tr, mo, ok, rfl, hS, hb2⟩
  obtain ⟨W3, hW3⟩ : ∃ W3, W3 = W2.alloc (Obj.cells #[Value.string nm, Value.float .f64 tr, Value.map mo] 74) := ⟨_, rfl⟩
  have hb3 : Below W1.heap.size W1 W3 := by rw [hW3]; exact hb2.alloc hb2.size _
  have hl2 : W2.heap.size < W3.heap.size := by rw [hW3]; simp
  have hs3 : W3.heap[W2.heap.size]? = some (.cells #[Value.string nm, Value.float .f64 tr, Value.map mo] 74 (0, 0)) := by rw [hW3]; exact heap_new _ _
  have hS3 : SubP p t.f0 W3 nm tr mo ok := hS.below (by rw [hW3]; exact (Below.refl _ _).alloc (Nat.le_refl _) _)
  have y0 := (hb3.block _ (lt_of_get R0.out)).trans R0.out
  have y2 := (hb3.block _ (lt_of_get R2.out)).trans R2.out
  have q0 := (blk_cell y0 0).trans (Eq.refl (some (Value.slice A0 p.f0.length c0)))
  have q1 := (blk_cell y0 1).trans (Eq.refl (some (Value.slice A1 p.f1.length c1)))
  have q2 := (blk_cell y0 2).trans (Eq.refl (some (Value.slice A2 p.f2.length c2)))
  have q3 := (blk_cell y0 3).trans (Eq.refl (some (Value.slice A3 p.f3.length c3)))
  have q4 := (blk_cell y0 4).trans (Eq.refl (some (Value.slice A4 p.f4.length c4)))
  have q5 := (blk_cell y0 5).trans (Eq.refl (some (Value.slice A5 p.f5.length c5)))
  have q6 := (blk_cell y0 6).trans (Eq.refl (some (Value.slice A6 p.f6.length c6)))
  have q7 := (blk_cell y0 7).trans (Eq.refl (some (Value.slice A7 p.f7.length c7)))
  have q8 := (blk_cell y0 8).trans (Eq.refl (some (Value.slice A8 p.f8.length c8)))
  have q9 := (blk_cell y0 9).trans (Eq.refl (some (Value.slice A9 p.f9.length c9)))
  have q10 := (blk_cell y0 10).trans (Eq.refl (some (Value.slice A10 p.f10.length c10)))
  have u0 := (blk_cell y2 0).trans (Eq.refl (some (Value.string t.f0)))
  have u1 := (blk_cell y2 1).trans (Eq.refl (some (Value.string t.f1)))
  have u2 := (blk_cell y2 2).trans (Eq.refl (some (Value.string t.f2)))
  have HB3 := Lib.hid hb3
  have HS3 := Lib.hid hs3
  have HSP := Lib.hid hS3
  have HW3 := Lib.hid hW3
  rw [hW3] at q0 q1 q2 q3 q4 q5 q6 q7 q8 q9 q10 u0 u1 u2
  clear hW3 hb3 hs3 hS3 hS hb2 y0 y2
  have Q0 := q0
  go_wp2_with fail
  rw [← HW3.out]
  clear Q0 q0 q1 q2 q3 q4 q5 q6 q7 q8 q9 q10 u0 u1 u2
  refine (object_any p _ t.f1 W3 (k28.K_below (HB.out.trans (HB3.out.mono HB.out.size)) HK0.out) HN.out).mono ?_
  rintro e W4 ⟨nm', tr', mo', is, rfl, hO, hb4⟩
  obtain ⟨W5, hW5⟩ : ∃ W5, W5 = W4.alloc (Obj.cells #[Value.string nm', Value.float .f64 tr', Value.map mo'] 74) := ⟨_, rfl⟩
  have hb5 : Below W3.heap.size W3 W5 := by rw [hW5]; exact hb4.alloc hb4.size _
  have hs5 : W5.heap[W4.heap.size]? = some (.cells #[Value.string nm', Value.float .f64 tr', Value.map mo'] 74 (0, 0)) := by rw [hW5]; exact heap_new _ _
  have hO5 : ObjP p t.f1 W5 nm' tr' mo' is := hO.below (by rw [hW5]; exact (Below.refl _ _).alloc (Nat.le_refl _) _)
  have hb15 : Below W1.heap.size W1 W5 := HB3.out.trans (hb5.mono HB3.out.size)
  have y0 := (hb15.block _ (lt_of_get R0.out)).trans R0.out
  have y2 := (hb15.block _ (lt_of_get R2.out)).trans R2.out
  have q0 := (blk_cell y0 0).trans (Eq.refl (some (Value.slice A0 p.f0.length c0)))
  have u2 := (blk_cell y2 2).trans (Eq.refl (some (Value.string t.f2)))
  have HB5 := Lib.hid hb15
  have HY0 := Lib.hid y0
  have HY2 := Lib.hid y2
  have HSA := Lib.hid ((hb5.block _ (lt_of_get HS3.out)).trans HS3.out)
  have HSB := Lib.hid hs5
  have HSP5 := Lib.hid (HSP.out.below hb5)
  have HOP5 := Lib.hid hO5
  have HW5 := Lib.hid hW5
  have HBw := Lib.hid (HB.out.trans (hb15.mono HB.out.size))
  rw [hW5] at q0 u2
  clear hW5 hb5 hs5 hO5 hO hb4 y0 y2 hl2 hb15
  cases ok with
  | false =>
    have hF : allowsB p t = false := by
      rcases HSP5.out with ⟨_, h⟩ | ⟨_, h, _⟩
      · simp [allowsB, h]
      · cases h
    have HF := Lib.hid hF
    clear hF q0 u2
    go_wp2_with fail
    go_quiet (fail)
    go_wp2_with fail
    go_ret
    rw [← HW5.out]
    exact ⟨by rw [HF.out]; rfl, pw_below_drewN HBw.out _⟩
  | true =>
    obtain ⟨m1, h1, rfl, rfl, htr, hset1⟩ : ∃ m, true = true ∧ nm = t.f0 ∧ mo = some m ∧ trustOf p.f1 t.f0 = some tr ∧ SetOf W5 m (upS p t.f0) := by
      rcases HSP5.out with ⟨h, _⟩ | h
      · cases h
      · exact h
    clear h1
    have HTR := Lib.hid htr
    have HSET1 := Lib.hid hset1
    clear htr hset1
    cases is with
    | false =>
      have hF : allowsB p t = false := by
        rcases HOP5.out with ⟨_, h⟩ | ⟨_, h, _⟩
        · simp [allowsB, HTR.out, h]
        · cases h
      have HF := Lib.hid hF
      clear hF q0 u2
      go_wp2_with fail
      go_quiet (fail)
      go_wp2_with fail
      go_ret
      rw [← HW5.out]
      exact ⟨by rw [HF.out]; rfl, pw_below_drewN HBw.out _⟩
    | true =>
      obtain ⟨m2, h1, rfl, rfl, rfl, hob, hset2⟩ : ∃ m, true = true ∧ nm' = t.f1 ∧ tr' = 0 ∧ mo' = some m ∧ memB p.f3 t.f1 = true ∧ SetOf W5 m (upO p t.f1) := by
        rcases HOP5.out with ⟨h, _⟩ | h
        · cases h
        · exact h
      clear h1
      have HOB := Lib.hid hob
      have HSET2 := Lib.hid hset2
      clear hob hset2
      cases hq : memB p.f0 t.f2 with
      | false =>
        have HF := Lib.hid (show allowsB p t = false from by simp [allowsB, HTR.out, HOB.out, hq])
        have HC := Lib.hid (fun W hW => by have := contains_calls p.f0 t.f2 A0 c0 W (Kd.C_below H0.out hW) l0; rw [hq] at this; exact this)
        clear hq
        go_wp2_with fail
        rw [← HW5.out] at q0 u2 ⊢
        go_quiet ((go_at_call 47; exact Calls.quiet_of (HC.out _ (pw_below_drewN HBw.out _))))
        go_wp2_with fail
        go_ret
        exact ⟨by rw [HF.out]; rfl, pw_below_drewN HBw.out _⟩
      | true =>
        have HF := Lib.hid (show allowsB p t = allowB (aboutL p tr (upS p t.f0) (upO p t.f1)) p.f10 t from by simp [allowsB, HTR.out, HOB.out, hq])
        have HC := Lib.hid (fun W hW => by have := contains_calls p.f0 t.f2 A0 c0 W (Kd.C_below H0.out hW) l0; rw [hq] at this; exact this)
        clear hq q0 u2
        have q0 := (blk_cell HY0.out 0).trans (Eq.refl (some (Value.slice A0 p.f0.length c0)))
        have q1 := (blk_cell HY0.out 1).trans (Eq.refl (some (Value.slice A1 p.f1.length c1)))
        have q2 := (blk_cell HY0.out 2).trans (Eq.refl (some (Value.slice A2 p.f2.length c2)))
        have q3 := (blk_cell HY0.out 3).trans (Eq.refl (some (Value.slice A3 p.f3.length c3)))
        have q4 := (blk_cell HY0.out 4).trans (Eq.refl (some (Value.slice A4 p.f4.length c4)))
        have q5 := (blk_cell HY0.out 5).trans (Eq.refl (some (Value.slice A5 p.f5.length c5)))
        have q6 := (blk_cell HY0.out 6).trans (Eq.refl (some (Value.slice A6 p.f6.length c6)))
        have q7 := (blk_cell HY0.out 7).trans (Eq.refl (some (Value.slice A7 p.f7.length c7)))
        have q8 := (blk_cell HY0.out 8).trans (Eq.refl (some (Value.slice A8 p.f8.length c8)))
        have q9 := (blk_cell HY0.out 9).trans (Eq.refl (some (Value.slice A9 p.f9.length c9)))
        have q10 := (blk_cell HY0.out 10).trans (Eq.refl (some (Value.slice A10 p.f10.length c10)))
        have u0 := (blk_cell HY2.out 0).trans (Eq.refl (some (Value.string t.f0)))
        have u1 := (blk_cell HY2.out 1).trans (Eq.refl (some (Value.string t.f1)))
        have u2 := (blk_cell HY2.out 2).trans (Eq.refl (some (Value.string t.f2)))
        have sa0 := (blk_cell HSA.out 0).trans (Eq.refl (some (Value.string t.f0)))
        have sa1 := (blk_cell HSA.out 1).trans (Eq.refl (some (Value.float .f64 tr)))
        have sa2 := (blk_cell HSA.out 2).trans (Eq.refl (some (Value.map (some m1))))
        have sb0 := (blk_cell HSB.out 0).trans (Eq.refl (some (Value.string t.f1)))
        have sb1 := (blk_cell HSB.out 1).trans (Eq.refl (some (Value.float .f64 0)))
        have sb2 := (blk_cell HSB.out 2).trans (Eq.refl (some (Value.map (some m2))))
        go_wp2_with fail
        rw [← HW5.out]
        go_region_held3 (fun w' => w'.cell? ⟨w.heap.size, 0, none⟩ = some (.slice A0 p.f0.length c0) ∧ w'.cell? ⟨w.heap.size, 1, none⟩ = some (.slice A1 p.f1.length c1) ∧ w'.cell? ⟨w.heap.size, 2, none⟩ = some (.slice A2 p.f2.length c2) ∧ w'.cell? ⟨w.heap.size, 3, none⟩ = some (.slice A3 p.f3.length c3) ∧ w'.cell? ⟨w.heap.size, 4, none⟩ = some (.slice A4 p.f4.length c4) ∧ w'.cell? ⟨w.heap.size, 5, none⟩ = some (.slice A5 p.f5.length c5) ∧ w'.cell? ⟨w.heap.size, 6, none⟩ = some (.slice A6 p.f6.length c6) ∧ w'.cell? ⟨w.heap.size, 7, none⟩ = some (.slice A7 p.f7.length c7) ∧ w'.cell? ⟨w.heap.size, 8, none⟩ = some (.slice A8 p.f8.length c8) ∧ w'.cell? ⟨w.heap.size, 9, none⟩ = some (.slice A9 p.f9.length c9) ∧ w'.cell? ⟨w.heap.size, 10, none⟩ = some (.slice A10 p.f10.length c10) ∧
            w'.cell? ⟨w.heap.size + 1, 0, none⟩ = some (.string t.f0) ∧ w'.cell? ⟨w.heap.size + 1, 1, none⟩ = some (.string t.f1) ∧ w'.cell? ⟨w.heap.size + 1, 2, none⟩ = some (.string t.f2) ∧
            w'.cell? ⟨W2.heap.size, 0, none⟩ = some (.string t.f0) ∧ w'.cell? ⟨W2.heap.size, 1, none⟩ = some (.float .f64 tr) ∧ w'.cell? ⟨W2.heap.size, 2, none⟩ = some (.map (some m1)) ∧
            w'.cell? ⟨W4.heap.size, 0, none⟩ = some (.string t.f1) ∧ w'.cell? ⟨W4.heap.size, 1, none⟩ = some (.float .f64 0) ∧ w'.cell? ⟨W4.heap.size, 2, none⟩ = some (.map (some m2)))
          (first | exact allows_cells HZ80.out HZ82.out HZ8A.out HZ8B.out | exact allows_cells HZ0.out HZ2.out HZA.out HZB.out | exact allows_cells HY0.out HY2.out HSA.out HSB.out)
          (first | (go_at_call 47; refine (HC.out _ (by exact below_like HBw.out rfl rfl rfl rfl)).mono ?_; rintro e w6 ⟨rfl, nd, rfl⟩) | (go_at_call 49; refine (about_calls p _ t.f0 t.f1 tr 0 m1 m2 (upS p t.f0) (upO p t.f1) _ (by exact k28.K_below (below_like HBw.out rfl rfl rfl rfl) HK0.out) (by exact IsRaw.move HSET1.out rfl) (by exact IsRaw.move HSET2.out rfl) HN.out.r).mono ?_; rintro e w7 ⟨v, rfl, hNR, hb7⟩; obtain ⟨AR, cR, rfl, hlR, hCR⟩ := N_read hNR; have HNR := Lib.hid hCR; have HLR := Lib.hid hlR; have HB7 := Lib.hid (below_on HBw.out hb7 rfl rfl rfl rfl); have HZ0 := Lib.hid ((hb7.block _ (lt_of_get HY0.out)).trans HY0.out); have HZ2 := Lib.hid ((hb7.block _ (lt_of_get HY2.out)).trans HY2.out); have HZA := Lib.hid ((hb7.block _ (lt_of_get HSA.out)).trans HSA.out); have HZB := Lib.hid ((hb7.block _ (lt_of_get HSB.out)).trans HSB.out); clear hNR hb7 hCR hlR) | (go_at_call 48; refine (allows_calls p _ _ AR cR t w7 (k28.K_below HB7.out HK0.out) HNR.out HLR.out).mono ?_; rintro e w8 ⟨rfl, hb8⟩; have HB8 := Lib.hid hb8; have HZ80 := Lib.hid ((hb8.block _ (lt_of_get HZ0.out)).trans HZ0.out); have HZ82 := Lib.hid ((hb8.block _ (lt_of_get HZ2.out)).trans HZ2.out); have HZ8A := Lib.hid ((hb8.block _ (lt_of_get HZA.out)).trans HZA.out); have HZ8B := Lib.hid ((hb8.block _ (lt_of_get HZB.out)).trans HZB.out); clear hb8))
        all_goals
          go_wp2_with fail
          go_ret
          exact ⟨by rw [HF.out]; rfl, HB7.out.trans (HB8.out.mono HB7.out.size)⟩
end Go.Proofs.YteefneemmdfncaaDoor.M
