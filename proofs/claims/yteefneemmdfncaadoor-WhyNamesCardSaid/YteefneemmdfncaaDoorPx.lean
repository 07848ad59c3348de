import Derived.Test.YteefneemmdfncaaDoorPE
import Derived.Test.YteefneemmdfncaaDoorWa
/- reach.Path, walked: a way from a name to another one, as told by the reasons. Conditions: the pairs read as they must, and are at most 4194304. -/
namespace Go.Proofs.YteefneemmdfncaaDoor.M
open Go.RowKit Go.Proofs.YteefneemmdfncaaDoorW.Raw Go.Proofs.YteefneemmdfncaaDoorW.PrintWords Go.Proofs.YteefneemmdfncaaDoor.F
set_option linter.unusedVariables false
abbrev orV (x : ByteArray) : Value := .agg #[.string x]
abbrev rKs (R : Rea) : List Value := (R.map (·.1)).map Value.string
abbrev rVs (R : Rea) : List Value := R.map fun e => orV e.2
theorem zeroOr (w : World) : (zeroValue 135).run Tryd.prog w = .ok (orV ⟨#[]⟩) w := by kernel_rfl
theorem rea_look (R : Rea) (y : ByteArray) : (∃ e, R.find? (fun e => y == e.1) = some e ∧ lkVal (fun a b => a == b) (orV ⟨#[]⟩) (R.map (·.1)) (rVs R) y = orV e.2 ∧ lkOk (fun a b => a == b) (R.map (·.1)) y = true ∧ y ∈ R.map (·.1)) ∨
    (R.find? (fun e => y == e.1) = none ∧ lkVal (fun a b => a == b) (orV ⟨#[]⟩) (R.map (·.1)) (rVs R) y = orV ⟨#[]⟩ ∧ lkOk (fun a b => a == b) (R.map (·.1)) y = false ∧ y ∉ R.map (·.1)) := by
  cases hi : (R.map (·.1)).findIdx? (fun b => y == b) with
  | none =>
    right
    have h1 := List.findIdx?_eq_none_iff.1 hi
    refine ⟨List.find?_eq_none.2 fun e he => ?_, lkVal_none hi, lkOk_none hi, fun hm => ?_⟩
    · rw [h1 e.1 (List.mem_map.2 ⟨e, he, rfl⟩)]; simp
    · have := h1 y hm
      rw [(bb y y).2 rfl] at this
      cases this
  | some i =>
    left
    obtain ⟨hl, h1, h2⟩ := List.findIdx?_eq_some_iff_getElem.1 hi
    have hl' : i < R.length := by simpa using hl
    rw [List.getElem_map] at h1
    refine ⟨R[i], List.find?_eq_some_iff_getElem.2 ⟨h1, i, hl', rfl, fun j hj => ?_⟩, ?_, lkOk_some hi, List.mem_map.2 ⟨R[i], List.getElem_mem hl', ((bb _ _).1 h1).symm⟩⟩
    · have := h2 j hj
      rw [List.getElem_map] at this
      simpa using this
    · rw [lkVal_some hi, List.getD_eq_getElem?_getD, List.getElem?_map, List.getElem?_eq_getElem hl']
      rfl
theorem addR_in {frm x y : ByteArray} {R : Rea} (h : y ∈ R.map (·.1)) : addR frm x R y = R := by
  unfold addR
  rw [keyR.2 h]
  rfl
theorem addR_frm {frm x y : ByteArray} {R : Rea} (h : y = frm) : addR frm x R y = R := by
  unfold addR
  rw [(bb y frm).2 h, Bool.or_true]
  rfl
theorem addR_add {frm x y : ByteArray} {R : Rea} (h : y ∉ R.map (·.1)) (hn : y ≠ frm) : addR frm x R y = R ++ [(y, x)] := by
  have h1 : (R.any fun e => y == e.1) = false := by
    cases hq : (R.any fun e => y == e.1) with
    | false => rfl
    | true => exact absurd (keyR.1 hq) h
  have h2 : (y == frm) = false := by
    cases hq : (y == frm) with
    | false => rfl
    | true => exact absurd ((bb _ _).1 hq) hn
  unfold addR
  rw [h1, h2]
  rfl
theorem rK_snoc (R : Rea) (y x : ByteArray) : (R.map (·.1) ++ [y]).map Value.string = rKs (R ++ [(y, x)]) := by simp
theorem rV_snoc (R : Rea) (y x : ByteArray) : rVs R ++ [orV x] = rVs (R ++ [(y, x)]) := by simp
set_option maxRecDepth 100000 in
set_option maxHeartbeats 2000000 in
theorem path1_calls {w : World} {base m mr bm br bf : Nat} {ks : List ByteArray} {vs : List Value} {T : ByteArray → List ByteArray} {R : Rea} {frm : ByteArray} (h : Grp w base m ks vs T) (hbm : w.heap[bm]? = some (.cells #[.map (some m)] 130 (0, 0))) (hbr : w.heap[br]? = some (.cells #[.map (some mr)] 132 (0, 0)))
    (hbf : w.heap[bf]? = some (.cells #[.string frm] 9 (0, 0))) (hR : IsRaw w mr (rKs R) (rVs R)) (hmm : m ≠ mr) (x : ByteArray) (hT : (T x).length ≤ 16777216) :
    Calls Tryd.prog 100 #[.string x, .pointer (some ⟨bm, 0, none⟩), .pointer (some ⟨br, 0, none⟩), .pointer (some ⟨bf, 0, none⟩)] w fun e w' => e = .returned (lookRow ks vs x) ∧ IsRaw w' mr (rKs (stepR T frm R x)) (rVs (stepR T frm R x)) ∧ Kept w w' (fun i => i = mr) ∧ Below mr w w' := by
  have hown := h.look x
  obtain ⟨A, c, hv⟩ := own_slice hown
  rw [hv] at hown ⊢
  have hbmr : bm ≠ mr := fun e => raw_ne_blk hR hbm e.symm
  have hbrr : br ≠ mr := fun e => raw_ne_blk hR hbr e.symm
  have hbfr : bf ≠ mr := fun e => raw_ne_blk hR hbf e.symm
  have hrm : some mr ≠ (Value.slice A (T x).length c).ownBlock := raw_ne hR hown
  have c0 := (blk_cell hbm 0).trans (Eq.refl (some (Value.map (some m))))
  have hL := run_lookRow h.raw x
  rw [hv] at hL
  have H := Lib.hid h
  have HBM := Lib.hid hbm
  have HBR := Lib.hid hbr
  have HBF := Lib.hid hbf
  have HR := Lib.hid hR
  have HV := Lib.hid hv
  have HO := Lib.hid hown
  have HRM := Lib.hid hrm
  have HMM := Lib.hid hmm
  have HN1 := Lib.hid hbmr
  have HN2 := Lib.hid hbrr
  have HN3 := Lib.hid hbfr
  clear h hbm hbr hbf hR hv hown hrm hmm hbmr hbrr hbfr
  go_enter Tryd.func100, Tryd.ntmps100
  go_wp2
  clear hL c0
  go_loopw [14] (fun i wr => ∃ (k : Nat), k ≤ (T x).length ∧ i = .int .i64 (k : Nat) ∧ IsRaw wr mr (rKs (((T x).take k).foldl (addR frm x) R)) (rVs (((T x).take k).foldl (addR frm x) R)) ∧ Kept w wr (fun i => i = mr) ∧ Below mr w wr) (fun i _ => (T x).length - (intOf i).toNat)
  case atStart => exact ⟨0, Nat.zero_le _, rfl, HR.out, Kept.refl _ _, Below.refl _ _⟩
  case round =>
    obtain ⟨k, hk, rfl, hraw, hK, hB⟩ := hrel
    have cr := (blk_cell ((hK.2 br (lt_of_get HBR.out) HN2.out).trans HBR.out) 0).trans (Eq.refl (some (Value.map (some mr))))
    have hbf2 := (hK.2 bf (lt_of_get HBF.out) HN3.out).trans HBF.out
    have cf5 := (blk_cell ((heap_old wr (Obj.cells #[Value.string ⟨#[]⟩] 135) (lt_of_get hbf2)).trans hbf2) 0).trans (Eq.refl (some (Value.string frm)))
    have hbr2 := (hK.2 br (lt_of_get HBR.out) HN2.out).trans HBR.out
    have cr5 := (blk_cell ((heap_old wr (Obj.cells #[Value.string ⟨#[]⟩] 135) (lt_of_get hbr2)).trans hbr2) 0).trans (Eq.refl (some (Value.map (some mr))))
    clear hbf2 hbr2
    by_cases hlt : k < (T x).length
    · obtain ⟨b, hA, hcx⟩ := row_at HO.out k hlt
      subst hA
      obtain ⟨y, hy⟩ : ∃ y, y = (T x).getD k ByteArray.empty := ⟨_, rfl⟩
      have hbb : b ≠ mr := fun e => HRM.out (by rw [e]; rfl)
      have cx : wr.cell? ⟨b, k, none⟩ = some (.string y) := by
        rw [hy, ← hcx]
        have hb1 : b < w.heap.size := own_lt HO.out b rfl
        have := hK.2 b hb1 hbb
        simp only [World.cell?, this]
      have htk : (T x).take (k + 1) = (T x).take k ++ [y] := by rw [List.take_succ_eq_append_getElem hlt, hy]; simp [List.getD_eq_getElem?_getD, hlt]
      obtain ⟨Rk, hRk⟩ : ∃ Rk, Rk = ((T x).take k).foldl (addR frm x) R := ⟨_, rfl⟩
      rw [← hRk] at hraw
      have hnext : ((T x).take (k + 1)).foldl (addR frm x) R = addR frm x Rk y := by rw [htk, List.foldl_append, ← hRk]; rfl
      have hlook := run_look keyS Tryd.underlying132 (zeroOr wr) hraw y
      have HRW := Lib.hid hraw
      have HK := Lib.hid hK
      have HB := Lib.hid hB
      have HNX := Lib.hid hnext
      have i0 : (0 : Int) ≤ (k : Int) := by omega
      have i1 : (k : Int) < ((T x).length : Int) := by omega
      clear hraw hK hB hnext hcx hbb htk hRk hy
      rcases rea_look Rk y with ⟨e, hf, h1, h2, h3⟩ | ⟨hf, h1, h2, h3⟩
      · rw [h1, h2] at hlook
        have H3 := Lib.hid h3
        clear hf h1 h2 h3
        go_wp2
        go_roundw
        case rel => exact ⟨k + 1, hlt, by go_num, by rw [HNX.out, addR_in H3.out]; exact HRW.out.move (heap_old _ _ HRW.out.lt), ⟨Nat.le_trans HK.out.1 (by simp), fun i hi hn => (heap_old _ _ (Nat.lt_of_lt_of_le hi HK.out.1)).trans (HK.out.2 i hi hn)⟩, HB.out.alloc (Nat.le_trans (Nat.le_of_lt HRW.out.lt) (Nat.le_refl _)) _⟩
        case measure => simp [intOf]; omega
      · rw [h1, h2] at hlook
        have H3 := Lib.hid h3
        clear hf h1 h2 h3
        by_cases hyf : y = frm
        · have q1 : (y.toList == frm.toList) = true := by rw [hyf]; exact beq_self_eq_true _
          have q2 : (y.toList != frm.toList) = false := by rw [bne, q1]; rfl
          have HY := Lib.hid hyf
          clear hyf
          go_wp2
          go_roundw
          case rel => exact ⟨k + 1, hlt, by go_num, by rw [HNX.out, addR_frm HY.out]; exact HRW.out.move (heap_old _ _ HRW.out.lt), ⟨Nat.le_trans HK.out.1 (by simp), fun i hi hn => (heap_old _ _ (Nat.lt_of_lt_of_le hi HK.out.1)).trans (HK.out.2 i hi hn)⟩, HB.out.alloc (Nat.le_trans (Nat.le_of_lt HRW.out.lt) (Nat.le_refl _)) _⟩
          case measure => simp [intOf]; omega
        · have q1 : (y.toList == frm.toList) = false := by
            cases hq : (y.toList == frm.toList) with
            | false => rfl
            | true => exact absurd ((toList_iff _ _).1 (beq_iff_eq.1 hq)) hyf
          have q2 : (y.toList != frm.toList) = true := by rw [bne, q1]; rfl
          have HY := Lib.hid hyf
          clear hyf
          go_wp2_with (at_mapUpdate; go_must (refine wpList_new rfl _ _ _ rfl keyS Tryd.underlying132 rfl (HRW.out.move (heap_old _ _ HRW.out.lt)) y rfl (orV x) rfl (find_none_of H3.out) ?_); intro es cl hraw2; have HR2 := Lib.hid hraw2; clear hraw2)
          go_roundw
          case rel => exact ⟨k + 1, hlt, by go_num, by rw [HNX.out, addR_add H3.out HY.out, ← rK_snoc, ← rV_snoc]; exact HR2.out, ⟨by rw [set_size]; exact Nat.le_trans HK.out.1 (by simp), fun i hi hn => (set_other hn).trans ((heap_old _ _ (Nat.lt_of_lt_of_le hi HK.out.1)).trans (HK.out.2 i hi hn))⟩, below_set_map (HB.out.alloc (Nat.le_of_lt HRW.out.lt) _) (Nat.le_refl _)⟩
          case measure => simp [intOf]; omega
    · obtain rfl : k = (T x).length := by omega
      rw [List.take_length] at hraw
      have cm := (blk_cell ((hK.2 bm (lt_of_get HBM.out) HN1.out).trans HBM.out) 0).trans (Eq.refl (some (Value.map (some m))))
      have hL2 := run_lookRow (H.out.raw.move (hK.2 m H.out.raw.lt HMM.out)) x
      rw [HV.out] at hL2
      have HRW := Lib.hid hraw
      have HK := Lib.hid hK
      have HB := Lib.hid hB
      clear hraw hK hB
      go_wp2
      go_ret
      exact ⟨rfl, HRW.out, HK.out, HB.out⟩
theorem back_len {R : Rea} {frm : ByteArray} : ∀ (k : Nat) (y : ByteArray) (b : List ByteArray), backP R frm k y = some b → b.length ≤ k
  | 0, _, _, h => by cases h
  | k + 1, y, b, h => by
    unfold backP at h
    by_cases hy : y = frm
    · rw [if_pos hy] at h
      cases h
      exact Nat.zero_le _
    · rw [if_neg hy] at h
      cases hf : R.find? (fun e => y == e.1) with
      | none => rw [hf] at h; cases h
      | some e =>
        rw [hf] at h
        obtain ⟨b2, h2, rfl⟩ := Option.map_eq_some_iff.1 h
        have := back_len k e.2 b2 h2
        rw [List.length_cons]
        omega
theorem back_step {R : Rea} {frm y : ByteArray} {k : Nat} {b : List ByteArray} {e : ByteArray × ByteArray} (hy : y ≠ frm) (hf : R.find? (fun e => y == e.1) = some e) (h : backP R frm k y = some b) : ∃ k', k = k' + 1 ∧ ∃ b', b = y :: b' ∧ backP R frm k' e.2 = some b' := by
  cases k with
  | zero => cases h
  | succ k =>
    unfold backP at h
    rw [if_neg hy, hf] at h
    obtain ⟨b2, h2, rfl⟩ := Option.map_eq_some_iff.1 h
    exact ⟨k, rfl, b2, rfl, h2⟩
theorem back_none {R : Rea} {frm y : ByteArray} {k : Nat} (hy : y ≠ frm) (hf : R.find? (fun e => y == e.1) = none) : backP R frm k y = none := by
  cases k with
  | zero => rfl
  | succ k =>
    unfold backP
    rw [if_neg hy, hf]
theorem back_frm {R : Rea} {frm : ByteArray} {k : Nat} {b : List ByteArray} (h : backP R frm k frm = some b) : b = [] := by
  cases k with
  | zero => cases h
  | succ k =>
    unfold backP at h
    rw [if_pos rfl] at h
    injection h with h
    exact h.symm
theorem start_or (ps : List Pair) (frm tt : ByteArray) : (∃ full, backP (reaL ps frm) frm (ps.length + 2) tt = some full) ∨ (tt ≠ frm ∧ (reaL ps frm).find? (fun e => tt == e.1) = none) := by
  by_cases ht : tt = frm
  · left
    refine ⟨[], ?_⟩
    show backP (reaL ps frm) frm (ps.length + 1 + 1) tt = _
    unfold backP
    rw [if_pos ht]
  · cases hf : (reaL ps frm).find? (fun e => tt == e.1) with
    | none => exact .inr ⟨ht, rfl⟩
    | some e =>
      left
      have he := List.mem_of_find?_eq_some hf
      have hk : tt ∈ (reaL ps frm).map (·.1) := List.mem_map.2 ⟨e, he, ((bb _ _).1 (List.find?_some (p := fun (e : ByteArray × ByteArray) => tt == e.1) hf)).symm⟩
      obtain ⟨_, x, hx, hn⟩ := (reas_key _).1 hk
      have hm : tt ∈ upL ps frm := upL_closed hx (tos_mem.1 hn)
      obtain ⟨j, hj, rfl⟩ := List.mem_iff_getElem.1 hm
      exact back_some (ps.length + 2) j hj (by have := upL_len ps frm; omega)
/-- Where the way back stands: what is left, or that there is none. -/
def BInv (ps : List Pair) (frm tt : ByteArray) (q : Nat) (y : ByteArray) (bs : List ByteArray) : Prop :=
  (∃ b' full, backP (reaL ps frm) frm q y = some b' ∧ full = bs ++ b' ∧ backP (reaL ps frm) frm (ps.length + 2) tt = some full) ∨ (y = tt ∧ bs = [] ∧ y ≠ frm ∧ (reaL ps frm).find? (fun e => y == e.1) = none)
theorem binv_len {ps : List Pair} {frm tt y : ByteArray} {q : Nat} {bs : List ByteArray} (h : BInv ps frm tt q y bs) : bs.length ≤ ps.length + 2 := by
  rcases h with ⟨b', full, _, h2, h3⟩ | ⟨_, h2, _⟩
  · have := back_len _ _ _ h3
    rw [h2, List.length_append] at this
    omega
  · rw [h2]; exact Nat.zero_le _
theorem binv_end {ps : List Pair} {frm tt y : ByteArray} {q : Nat} {bs : List ByteArray} (h : BInv ps frm tt q y bs) (hy : y = frm) : pathL ps frm tt = frm :: bs.reverse := by
  rcases h with ⟨b', full, h1, h2, h3⟩ | ⟨_, _, h4, _⟩
  · rw [hy] at h1
    have := back_frm h1
    rw [this, List.append_nil] at h2
    unfold pathL
    rw [h3, h2]
  · exact absurd hy h4
theorem binv_none {ps : List Pair} {frm tt y : ByteArray} {q : Nat} {bs : List ByteArray} (h : BInv ps frm tt q y bs) (hy : y ≠ frm) (hf : (reaL ps frm).find? (fun e => y == e.1) = none) : pathL ps frm tt = [] := by
  rcases h with ⟨b', full, h1, h2, h3⟩ | ⟨h1, h2, h3, h4⟩
  · rw [back_none hy hf] at h1
    cases h1
  · subst h1
    unfold pathL
    rw [back_none h3 h4]
theorem binv_step {ps : List Pair} {frm tt y : ByteArray} {q : Nat} {bs : List ByteArray} {e : ByteArray × ByteArray} (h : BInv ps frm tt q y bs) (hy : y ≠ frm) (hf : (reaL ps frm).find? (fun e => y == e.1) = some e) : ∃ q', q = q' + 1 ∧ BInv ps frm tt q' e.2 (bs ++ [y]) := by
  rcases h with ⟨b', full, h1, h2, h3⟩ | ⟨_, _, _, h4⟩
  · obtain ⟨q', hq, b2, rfl, h5⟩ := back_step hy hf h1
    exact ⟨q', hq, .inl ⟨b2, full, h5, by rw [h2, List.append_assoc]; rfl, h3⟩⟩
  · rw [h4] at hf
    cases hf
theorem binv_start (ps : List Pair) (frm tt : ByteArray) : BInv ps frm tt (ps.length + 2) tt [] := by
  rcases start_or ps frm tt with ⟨full, h⟩ | ⟨h1, h2⟩
  · exact .inl ⟨full, full, h, rfl, h⟩
  · exact .inr ⟨rfl, rfl, h1, h2⟩
theorem fieldOr (x : ByteArray) (w : World) : (Instr.field 135 (.agg #[.string x]) 0).run Tryd.prog w = .ok (.string x) w := by kernel_rfl
set_option maxRecDepth 100000 in
set_option maxHeartbeats 4000000 in
theorem path_calls (ps : List S97) (A : Option Addr) (c : Nat) (frm tt : ByteArray) (w : World) (hc : ps.length ≤ c) (hr : Kd.C k97 w A ps.length ps) (hn : ps.length ≤ 4194304) :
    Calls Tryd.prog 80 #[.slice A ps.length c, .string frm, .string tt] w fun e w' => ∃ v0_, e = .returned v0_ ∧ Kd.R Kd.string 9 w' w.heap.size (fun _ => True) v0_ (pathL ps frm tt) ∧ Below w.heap.size w w' := by
  have HR := Lib.hid hr
  have hmm := @run_makeMap Tryd.prog
  clear hr
  go_enter Tryd.func80, Tryd.ntmps80
  go_wp2_with fail
  refine (lines_calls ps A c _ hc (Kd.C_below HR.out (below_alloc (Below.refl _ _) _)) (by omega)).mono ?_
  rintro e w1 ⟨m, ks, vs, rfl, hG, hB⟩
  have HG := Lib.hid hG
  have HB := Lib.hid hB
  clear hG hB
  have hbf1 : w1.heap[w.heap.size]? = some (.cells #[.string frm] 9 (0, 0)) := (HB.out.block _ (by simp)).trans (heap_new _ _)
  have c1 := (blk_cell ((heap_old _ (Obj.cells #[Value.map (some (w1.heap.size + 1))] 132) (by simp; have := lt_of_get hbf1; omega)).trans ((heap_old _ (Obj.map #[] 0) (by simp; have := lt_of_get hbf1; omega)).trans ((heap_old w1 (Obj.cells #[Value.map (some m)] 130) (lt_of_get hbf1)).trans hbf1))) 0).trans (Eq.refl (some (Value.string frm)))
  have HBF1 := Lib.hid hbf1
  clear hbf1
  go_wp2_with fail
  clear c1
  obtain ⟨W, hW⟩ : ∃ W, W = (((w1.alloc (Obj.cells #[Value.map (some m)] 130)).alloc (Obj.map #[] 0)).alloc (Obj.cells #[Value.map (some (w1.heap.size + 1))] 132)).alloc (Obj.cells #[Value.string frm] 9) := ⟨_, rfl⟩
  have hsz1 : (w1.alloc (Obj.cells #[Value.map (some m)] 130)).heap.size = w1.heap.size + 1 := size_new _ _
  have hsz2 : ((w1.alloc (Obj.cells #[Value.map (some m)] 130)).alloc (Obj.map #[] 0)).heap.size = w1.heap.size + 1 + 1 := by rw [size_new, hsz1]
  have hsz3 : (((w1.alloc (Obj.cells #[Value.map (some m)] 130)).alloc (Obj.map #[] 0)).alloc (Obj.cells #[Value.map (some (w1.heap.size + 1))] 132)).heap.size = w1.heap.size + 1 + 1 + 1 := by rw [size_new, hsz2]
  have hszW : W.heap.size = w1.heap.size + 1 + 1 + 1 + 1 := by rw [hW, size_new, hsz3]
  have hbm : W.heap[w1.heap.size]? = some (.cells #[.map (some m)] 130 (0, 0)) := by
    rw [hW]
    exact (heap_old _ _ (by rw [hsz3]; omega)).trans ((heap_old _ _ (by rw [hsz2]; omega)).trans ((heap_old _ _ (by rw [hsz1]; omega)).trans (heap_new _ _)))
  have hmr : W.heap[w1.heap.size + 1]? = some (.map #[] 0) := by
    rw [hW]
    have := heap_new (w1.alloc (Obj.cells #[Value.map (some m)] 130)) (Obj.map #[] 0)
    rw [hsz1] at this
    exact (heap_old _ _ (by rw [hsz3]; omega)).trans ((heap_old _ _ (by rw [hsz2]; omega)).trans this)
  have hbr : W.heap[w1.heap.size + 1 + 1]? = some (.cells #[.map (some (w1.heap.size + 1))] 132 (0, 0)) := by
    rw [hW]
    have := heap_new ((w1.alloc (Obj.cells #[Value.map (some m)] 130)).alloc (Obj.map #[] 0)) (Obj.cells #[Value.map (some (w1.heap.size + 1))] 132)
    rw [hsz2] at this
    exact (heap_old _ _ (by rw [hsz3]; omega)).trans this
  have hrow : W.heap[w1.heap.size + 1 + 1 + 1]? = some (.cells #[.string frm] 9 (0, 0)) := by
    rw [hW]
    have := heap_new (((w1.alloc (Obj.cells #[Value.map (some m)] 130)).alloc (Obj.map #[] 0)).alloc (Obj.cells #[Value.map (some (w1.heap.size + 1))] 132)) (Obj.cells #[Value.string frm] 9)
    rwa [hsz3] at this
  have hBW : Below w1.heap.size w1 W := by
    rw [hW]
    exact ((((Below.refl _ _).alloc (Nat.le_refl _) _).alloc (by rw [hsz1]; omega) _).alloc (by rw [hsz2]; omega) _).alloc (by rw [hsz3]; omega) _
  have hbf : W.heap[w.heap.size]? = some (.cells #[.string frm] 9 (0, 0)) := (hBW.block _ (lt_of_get HBF1.out)).trans HBF1.out
  have hlt1 : w.heap.size < w1.heap.size := lt_of_get HBF1.out
  rw [← hW]
  have HBM := Lib.hid hbm
  have HMR := Lib.hid hmr
  have HBR := Lib.hid hbr
  have HRW := Lib.hid hrow
  have HBF := Lib.hid hbf
  have HSZ := Lib.hid hszW
  have HLT := Lib.hid hlt1
  have HGW := Lib.hid (HG.out.below hBW)
  have hB0 : Below w.heap.size w w1 := ((Below.refl _ _).alloc (Nat.le_refl _) _).trans (HB.out.mono (by simp))
  have HBB := Lib.hid (hB0.trans (hBW.mono hB0.size))
  have HMM := Lib.hid (show m ≠ w1.heap.size + 1 by have := HG.out.raw.lt; omega)
  clear hW hbm hmr hbr hrow hBW hbf hlt1 hszW hsz1 hsz2 hsz3 hB0
  refine (close_calls 100 #[.pointer (some ⟨w1.heap.size, 0, none⟩), .pointer (some ⟨w1.heap.size + 1 + 1, 0, none⟩), .pointer (some ⟨w.heap.size, 0, none⟩)] (tos ps) (frm :: ps.map (·.f1)) (fun pre W' => (∀ i, i < W.heap.size → i ≠ w1.heap.size + 1 → W'.heap[i]? = W.heap[i]?) ∧ IsRaw W' (w1.heap.size + 1) (rKs (reas (tos ps) frm pre)) (rVs (reas (tos ps) frm pre)) ∧ Below w.heap.size w W') [frm] _ 1 W (Nat.le_refl _) (fun W' hW' => ?hfs) ?hU ?hfU ?hNU (by simp) ?hNl ?hJ ⟨fun _ _ _ => rfl, ⟨#[], 0, HMR.out, rfl, rfl⟩, HBB.out⟩ (Go.Proofs.enters_of Tryd.func100 (by kernel_rfl) rfl) ?hnext).mono ?_
  case hfs =>
    refine ⟨rfl, by simp, fun _ => ⟨⟨w1.heap.size + 1 + 1 + 1, 0, none⟩, rfl, fun j p hj => ?_⟩⟩
    have hjl := (List.getElem?_eq_some_iff.1 hj).1
    obtain rfl : j = 0 := by simpa using hjl
    simp only [List.getElem?_cons_zero, Option.some.injEq] at hj
    subst hj
    refine ⟨[.string frm], rfl, rfl, fun i u hu => ?_⟩
    cases i with
    | zero =>
      simp only [List.getElem?_cons_zero, Option.some.injEq] at hu
      subst hu
      have := (blk_cell ((hW'.block _ (lt_of_get HRW.out)).trans HRW.out) 0).trans (Eq.refl (some (Value.string frm)))
      show W'.cell? ((⟨w1.heap.size + 1 + 1 + 1, 0, none⟩ : Addr).add (0 * 1 + 0)) = _
      rw [add_plain]
      simpa using this
    | succ i => simp at hu
  case hU => rw [List.length_cons, List.length_map]; omega
  case hfU => intro x hx; rw [List.mem_singleton] at hx; subst hx; exact List.mem_cons_self
  case hNU =>
    intro x y hy
    obtain ⟨p, hp, _, rfl⟩ := tos_mem.1 hy
    exact List.mem_cons_of_mem _ (List.mem_map.2 ⟨p, hp, rfl⟩)
  case hNl => intro x; have := tos_len ps x; omega
  case hJ => intro pre W1 W2 hJ hb; exact ⟨fun i hi hn => (hb.block i hi).trans (hJ.1 i hi hn), hJ.2.1.move (hb.block _ (lt_of_get HMR.out)), hJ.2.2.trans (hb.mono HBB.out.size)⟩
  case hnext =>
    intro pre x W1 hJ hsz
    have hG1 : Grp W1 (w.alloc (Obj.cells #[Value.string frm] 9)).heap.size m ks vs (tos ps) := HGW.out.move (hJ.1 m HGW.out.raw.lt HMM.out) (fun i v b hv hv2 => hJ.1 b (HGW.out.lt hv hv2) (by have := HG.out.lt hv hv2; omega))
    refine (path1_calls hG1 ((hJ.1 _ (lt_of_get HBM.out) (by omega)).trans HBM.out) ((hJ.1 _ (lt_of_get HBR.out) (by omega)).trans HBR.out) ((hJ.1 _ (lt_of_get HBF.out) (by have := HLT.out; omega)).trans HBF.out) hJ.2.1 HMM.out x (by have := tos_len ps x; omega)).mono ?_
    rintro e W2 ⟨rfl, hR2, hK2, hB2⟩
    have hrow := hG1.look x
    have hne := raw_ne hJ.2.1 hrow
    obtain ⟨A1, n1, hv⟩ := own_slice hrow
    rw [hv] at hrow hne ⊢
    refine ⟨A1, n1, rfl, le_own hrow, ⟨fun i hi hn => (hK2.2 i (Nat.lt_of_lt_of_le hi hsz) hn).trans (hJ.1 i hi hn), by rw [reas_snoc]; exact hR2, hJ.2.2.trans (hB2.mono (by have := HLT.out; omega))⟩, ⟨hK2.1, fun i hi hn => hK2.2 i hi (fun e => hn (by show i < _; rw [e]; exact lt_of_get HMR.out))⟩, fun W3 hW3 => C_own (own_move hrow (fun k hk => ?_))⟩
    have h1 := own_lt (HGW.out.look x) k (by rw [hv]; exact hk)
    have h2 : k ≠ w1.heap.size + 1 := fun e => hne (by rw [← e, hk])
    exact (hW3.block k h1).trans (hK2.2 k (Nat.lt_of_lt_of_le h1 hsz) h2)
  rintro e w2 ⟨u, L, rfl, _, hL, hnd, hJ, hsz⟩
  rw [add_nil1] at hL
  have hup := up_of hL hnd
  subst hup
  obtain ⟨hJ1, hJ2, hJ3⟩ := hJ
  have HBR2 := Lib.hid ((hJ1 _ (lt_of_get HBR.out) (by omega)).trans HBR.out)
  have HBF2 := Lib.hid ((hJ1 _ (lt_of_get HBF.out) (by have := HLT.out; omega)).trans HBF.out)
  have HRW2 := Lib.hid (show IsRaw w2 (w1.heap.size + 1) (rKs (reaL ps frm)) (rVs (reaL ps frm)) from hJ2)
  have HB2 := Lib.hid hJ3
  clear hL hnd hJ1 hJ2 hJ3 hsz HBM HMR HBR HRW HBF HSZ HLT HGW HBB HMM HG HB HBF1 hmm
  go_wp2
  go_loopg [9, 10] (ps.length + 2) (fun kq v9 v10 w' => ∃ (bs : List ByteArray) (y : ByteArray), v10 = .string y ∧ Kd.R Kd.string 9 w' w2.heap.size (fun _ => True) v9 bs ∧ BInv ps frm tt kq y bs ∧ Below w2.heap.size w2 w')
  case atStart => exact ⟨[], tt, rfl, Kd.R_nil _ _ _ _ _, binv_start ps frm tt, Below.refl _ _⟩
  case round =>
    obtain ⟨bs, y, rfl, hR, hI, hB⟩ := hrel
    have hbf2 := (hB.block _ (lt_of_get HBF2.out)).trans HBF2.out
    have hbr2 := (hB.block _ (lt_of_get HBR2.out)).trans HBR2.out
    have hraw2 := HRW2.out.move (hB.block _ HRW2.out.lt)
    have cf := (blk_cell hbf2 0).trans (Eq.refl (some (Value.string frm)))
    have cr := (blk_cell hbr2 0).trans (Eq.refl (some (Value.map (some (w1.heap.size + 1)))))
    have HBF3 := Lib.hid hbf2
    have HBR3 := Lib.hid hbr2
    have HRW3 := Lib.hid hraw2
    have HR1 := Lib.hid hR
    have HI := Lib.hid hI
    have HB := Lib.hid hB
    clear hbf2 hbr2 hraw2 hR hI hB
    by_cases hy : y = frm
    · have q1 : (y.toList == frm.toList) = true := by rw [hy]; exact beq_self_eq_true _
      have q2 : (y.toList != frm.toList) = false := by rw [bne, q1]; rfl
      have HY := Lib.hid hy
      clear hy
      obtain ⟨wA, hwA⟩ : ∃ x, x = wr := ⟨_, rfl⟩
      subst hwA
      obtain ⟨bA, bc, rfl, hbl, hbC⟩ := Kd.R_reads HR1.out
      have hpl := binv_end HI.out HY.out
      have hbn := binv_len HI.out
      have HBC := Lib.hid hbC
      have HPL := Lib.hid hpl
      have HBN := Lib.hid hbn
      clear hbC hpl hbn
      go_wp2_with (first | (refine Kd.R_lit Kd.string _ 9 ?hg (N := 43) ?hd (xs := ([frm] : List ByteArray)) (inner := [.string frm]) (ok := fun _ => True) (okp := fun _ => True) ?hr ?hp (fun _ hk => hk) trivial (Below.refl _ _) (Nat.le_refl _) (by simp) ?_; (case hd => rfl); (case hg => rfl); (case hr => first | (go_simp; done) | (go_simp; rfl)); (case hp => exact (Reps.one (show Kd.M Kd.string _ _ _ frm [.string frm] from rfl) (Reps.none _ _))); intro v43 w4 ho4 hb4 hg4 hn4; have HO4 := Lib.hid ho4; have HB4 := Lib.hid hb4; clear ho4 hb4 hg4 hn4))
      go_loopg [13, 14] bs.length (fun kq v13 v14 w' => kq ≤ bs.length ∧ v14 = .int .i64 ((kq : Int) - 1) ∧ Kd.R Kd.string 9 w' wA.heap.size (fun _ => True) v13 (frm :: (bs.drop kq).reverse) ∧ Below wA.heap.size wA w')
      case atStart => exact ⟨Nat.le_refl _, congrArg (Value.int .i64) (show wrap64 ((bs.length : Int) - 1) = (bs.length : Int) - 1 by have := HBN.out; unfold wrap64; omega), by rw [List.drop_length]; exact HO4.out, HB4.out⟩
      case round =>
        obtain ⟨hk, rfl, hR3, hB3⟩ := hrel
        have HR3 := Lib.hid hR3
        have HC3 := Lib.hid (Kd.C_below HBC.out hB3)
        have HB3 := Lib.hid hB3
        clear hR3 hB3
        cases gk with
        | zero =>
          have e1 : decide ((0 : Int) ≤ ((0 : Nat) : Int) - 1) = false := decide_eq_false (by omega)
          go_wp2
          go_ret
          exact ⟨_, rfl, by rw [HPL.out]; have := HR3.out; rw [List.drop_zero] at this; exact Kd.R_lower this (Nat.le_trans HB2.out.size HB.out.size), HB2.out.trans ((HB.out.trans (HB3.out.mono HB.out.size)).mono HB2.out.size)⟩
        | succ k1 =>
          have hlt : k1 < bs.length := by omega
          have e0 : (((k1 + 1 : Nat) : Int) - 1) = (k1 : Int) := by omega
          rw [e0]
          have e1 : decide ((0 : Int) ≤ (k1 : Int)) = true := decide_eq_true (by omega)
          obtain ⟨ad, rfl, q0⟩ := Kd.at_string HC3.out (k1 : Int) (by omega) (by omega)
          obtain ⟨x, hx⟩ : ∃ x, x = rdOf ByteArray.empty bs (k1 : Int) := ⟨_, rfl⟩
          rw [← hx, Int.toNat_natCast] at q0
          have hx2 : x = bs[k1] := by rw [hx]; simp [rdOf, hlt]
          have hdr : frm :: (bs.drop k1).reverse = (frm :: (bs.drop (k1 + 1)).reverse) ++ [x] := by rw [List.drop_eq_getElem_cons hlt, List.reverse_cons, ← hx2, List.cons_append]
          have hl3 : (frm :: (bs.drop (k1 + 1)).reverse).length ≤ bs.length + 1 := by rw [List.length_cons, List.length_reverse, List.length_drop]; omega
          have HDR := Lib.hid hdr
          have HL3 := Lib.hid hl3
          have HLT := Lib.hid hlt
          have p0 : (0 : Int) ≤ (k1 : Int) := by omega
          have p1 : (k1 : Int) < (bs.length : Int) := by omega
          clear hx hx2 hdr hl3 e0
          go_wp2_with (first | ((with_reducible refine gate_builtin (b := .append) (xs := #[.tmp 51, .tmp 56]) rfl ?_); at_builtin; refine Kd.R_append Kd.string (w0 := wA) wA.heap.size rfl (.tmp 51) (.tmp 56) 22 9 (.string ⟨#[]⟩) 16 rfl Tryd.underlying22 info9 rfl (by decide) (by omega) _ _ x [.string x] (fun _ => True) (fun _ => False) rfl rfl ?aP (fun _ hk => hk.elim) ?aF HR3.out ?aB ?aS ?aL ?_; (case aP => exact rfl); (case aB => exact HB3.out); (case aF => exact (fun _ _ => trivial)); (case aS => exact HB3.out.size); (case aL => have := HBN.out; have := HL3.out; omega); intro v9 w7 ho hb hg hat; rw [← HDR.out] at ho; have HO7 := Lib.hid ho; have HB7 := Lib.hid hb; clear ho hb hg hat))
          go_roundg k1
          case measure => omega
          case rel => exact ⟨by omega, congrArg (Value.int .i64) (show wrap64 ((k1 : Int) - 1) = (k1 : Int) - 1 by have := HBN.out; unfold wrap64; omega), HO7.out, HB7.out⟩
    · have q1 : (y.toList == frm.toList) = false := by
        cases hq : (y.toList == frm.toList) with
        | false => rfl
        | true => exact absurd ((toList_iff _ _).1 (beq_iff_eq.1 hq)) hy
      have q2 : (y.toList != frm.toList) = true := by rw [bne, q1]; rfl
      have hlook := run_look keyS Tryd.underlying132 (zeroOr wr) HRW3.out y
      have HY := Lib.hid hy
      clear hy
      rcases rea_look (reaL ps frm) y with ⟨e, hf, h1, h2, h3⟩ | ⟨hf, h1, h2, h3⟩
      · rw [h1, h2] at hlook
        obtain ⟨k1, hk1, hI2⟩ := binv_step HI.out HY.out hf
        subst hk1
        have HI2 := Lib.hid hI2
        have hbn := binv_len HI.out
        have HBN := Lib.hid hbn
        have H3 := Lib.hid h1
        clear hf h1 h2 h3 hI2 hbn
        go_wp2_with (first | ((with_reducible refine gate_builtin (b := .append) (xs := #[.tmp 38, .tmp 40]) rfl ?_); at_builtin; refine Kd.R_append Kd.string (w0 := w2) w2.heap.size rfl (.tmp 38) (.tmp 40) 22 9 (.string ⟨#[]⟩) 16 rfl Tryd.underlying22 info9 rfl (by decide) (by omega) _ bs y [.string y] (fun _ => True) (fun _ => False) rfl (by rw [size_new]; rfl) ?aP (fun _ hk => hk.elim) ?aF ?aO ?aB ?aS ?aL ?_; (case aP => exact rfl); (case aB => exact HB.out.alloc HB.out.size _); (case aF => exact (fun _ _ => trivial)); (case aO => exact Kd.R_alloc HR1.out _); (case aS => exact Nat.le_trans HB.out.size (by simp)); (case aL => have := HBN.out; omega); intro v9 w7 ho hb hg hat; have HO7 := Lib.hid ho; have HB7 := Lib.hid hb; have cr7 := (blk_cell ((hb.block _ (lt_of_get HBR2.out)).trans HBR2.out) 0).trans (Eq.refl (some (Value.map (some (w1.heap.size + 1))))); have hlook7 := run_look1 keyS Tryd.underlying132 (zeroOr w7) (HRW2.out.move (hb.block _ HRW2.out.lt)) y; rw [H3.out] at hlook7; replace hlook7 : (Instr.lookup 132 (.map (some (w1.heap.size + 1))) (.string y) false).run Tryd.prog w7 = .ok (.agg #[.string e.2]) w7 := hlook7; have hfld := fieldOr e.2 w7; clear ho hb hg hat))
        go_roundg k1
        case measure => omega
        case rel => exact ⟨bs ++ [y], e.2, rfl, HO7.out, HI2.out, HB7.out⟩
      · rw [h1, h2] at hlook
        have hpl := binv_none HI.out HY.out hf
        have HPL := Lib.hid hpl
        clear hf h1 h2 h3 hpl
        go_wp2
        go_ret
        exact ⟨_, rfl, by rw [HPL.out]; exact Kd.R_nil _ _ _ _ _, HB2.out.trans ((HB.out.mono HB2.out.size).alloc (Nat.le_trans HB2.out.size HB.out.size) _)⟩
end Go.Proofs.YteefneemmdfncaaDoor.M
namespace Go.Proofs.YteefneemmdfncaaDoor.F
open Go.RowKit Go.Proofs.YteefneemmdfncaaDoorW.PrintWords
end Go.Proofs.YteefneemmdfncaaDoor.F
