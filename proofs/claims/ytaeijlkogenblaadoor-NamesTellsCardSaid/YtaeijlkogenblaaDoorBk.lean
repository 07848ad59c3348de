/- NamesBack: a writing is read back as the name. Condition: the two tables of utf8 lie as their initialisers lay them. -/
import Derived.Test.YtaeijlkogenblaaDoorAp
namespace Go.Proofs.YtaeijlkogenblaaDoor.F
open Go.RowKit Go.Lib Go.Proofs.YtaeijlkogenblaaDoorW.PrintWords
set_option linter.unusedVariables false
theorem ite_true_or {p : Prop} [Decidable p] {b : Option Bool} (h : (if p then some true else b) = some true) : p ∨ b = some true := by
  by_cases c : p
  · exact .inl c
  · rw [if_neg c] at h
    exact .inr h
theorem key_cases {s : ByteArray} (h : keyN s = true) : validN s = true ∧ bareN s = false := by
  have e := key_f s
  rw [h] at e
  have fin : ∀ l : List UInt8, s.toList = l → validN (⟨l.toArray⟩ : ByteArray) = true → validN s = true := by
    intro l hl hv
    have : s = ⟨l.toArray⟩ := bytes_eq (by rw [← ByteArray.toList_eq, hl])
    rw [this]
    exact hv
  have hv : validN s = true := by
    unfold names_Keyword.f at e
    iterate 16 (
      rcases ite_true_or e with c | e2
      · exact fin _ c (by decide +kernel)
      clear e
      have e := e2
      clear e2)
    cases e
  refine ⟨hv, ?_⟩
  unfold bareN
  rw [hv, h]
  rfl
/-- What is read of a quoted text from a place on. -/
theorem bt_quo (l : List UInt8) (pre : List UInt8) (x : UInt8) (post : List UInt8) (h : quo l = pre ++ x :: post) : bt (⟨(quo l).toArray⟩ : ByteArray) (pre.length : Nat) = (x.toNat : Int) := by
  have hl : pre.length < (⟨(quo l).toArray⟩ : ByteArray).size := by
    show pre.length < (quo l).toArray.size
    rw [List.size_toArray, h]
    simp
  rw [bt_of _ _ hl]
  congr 2
  show (quo l).toArray[pre.length] = x
  simp [h]
theorem ex_quo (l : List UInt8) (pre : List UInt8) (x : UInt8) (post : List UInt8) (h : quo l = pre ++ x :: post) : (⟨(quo l).toArray⟩ : ByteArray).extract pre.length (pre.length + 1) = ⟨#[x]⟩ := by
  apply bytes_eq
  rw [ByteArray.data_extract]
  simp [h]
theorem quo_len (L : List UInt8) : (quo L).length = (escL L).length + 2 := by unfold quo; simp
theorem qsize (L : List UInt8) : (⟨(quo L).toArray⟩ : ByteArray).size = (escL L).length + 2 := by
  show (quo L).toArray.size = _
  rw [List.size_toArray, quo_len]
theorem app_one (d : List UInt8) (x : UInt8) : (⟨d.toArray⟩ : ByteArray) ++ ⟨#[x]⟩ = ⟨(d ++ [x]).toArray⟩ := by
  apply bytes_eq
  rw [ByteArray.data_append]
  simp
theorem wr1 (p : Nat) (h : p ≤ 1000) : wrap64 ((p : Int) + 1) = ((p + 1 : Nat) : Int) := by unfold wrap64; omega
theorem wr3 (p : Nat) (h : p ≤ 1000) : wrap64 (((p + 2 : Nat) : Int) - 1) = ((p + 1 : Nat) : Int) := by unfold wrap64; omega
theorem unq_loop : ∀ (l : List UInt8) (done : List UInt8) (L : List UInt8), L = done ++ l → L.length ≤ 32 → ∀ k,
    gatehouselaw01_unquoted.l0 (l.length + 1 + k) (⟨(quo L).toArray⟩ : ByteArray) ⟨done.toArray⟩ (((escL done).length + 1 : Nat) : Int) = some (⟨L.toArray⟩, true)
  | [], done, L, hL, hl, k => by
    rw [List.append_nil] at hL
    subst hL
    have h2 := escL_len L
    rw [show ([] : List UInt8).length + 1 + k = k + 1 by simp; omega]
    unfold gatehouselaw01_unquoted.l0
    rw [qsize]
    rw [wr3 _ (by omega), if_neg (by omega)]
  | x :: l, done, L, hL, hl, k => by
    have h2 := escL_len L
    have hdl : done.length ≤ 32 := by rw [hL, List.length_append] at hl; omega
    have hd2 := escL_len done
    have hdone : (⟨done.toArray⟩ : ByteArray).size = done.length := List.size_toArray
    have hes : escL L = escL done ++ (esc1 x ++ escL l) := by rw [hL, escL_app]; rfl
    obtain ⟨p, hp⟩ : ∃ p, p = (escL done).length + 1 := ⟨_, rfl⟩
    rw [← hp]
    have hsz := qsize L
    have ih := unq_loop l (done ++ [x]) L (by rw [hL, List.append_assoc]; rfl) hl k
    rw [show (x :: l).length + 1 + k = (l.length + 1 + k) + 1 by rw [List.length_cons]; omega]
    unfold gatehouselaw01_unquoted.l0
    rw [hsz]
    by_cases c : x = 34 ∨ x = 92
    · have e1 : esc1 x = [92, x] := esc1_two c
      rw [e1] at hes
      have hlen : (escL L).length = (escL done).length + 2 + (escL l).length := by rw [hes]; simp; omega
      have hq : quo L = (34 :: escL done) ++ 92 :: (x :: (escL l ++ [34])) := by unfold quo; rw [hes]; simp
      have hq2 : quo L = ((34 :: escL done) ++ [92]) ++ x :: (escL l ++ [34]) := by rw [hq]; simp
      have hb := bt_quo L _ _ _ hq
      have hx := ex_quo L _ _ _ hq2
      have hpl : (34 :: escL done).length = p := by rw [hp]; rfl
      have hpl2 : ((34 :: escL done) ++ [92]).length = p + 1 := by rw [List.length_append, hpl]; rfl
      rw [hpl] at hb
      rw [hpl2] at hx
      have w1 := Lib.hid (wr1 p (by omega))
      have w2 := Lib.hid (wr1 (p + 1) (by omega))
      have w3 := Lib.hid (wr3 (escL L).length (by omega))
      rw [w3.out, if_pos (by omega), if_pos (by omega), if_pos (by omega), hb, if_neg (by decide), if_pos (by decide), w1.out, if_neg (by omega), if_pos (by omega), w2.out, if_pos (by omega), if_pos (by omega)]
      rw [show ((p + 1 : Nat) : Int).toNat = p + 1 from rfl, show ((p + 2 : Nat) : Int).toNat = p + 1 + 1 from rfl, hx, hdone, if_pos (by show done.length + 1 ≤ _; omega), app_one]
      have he : (escL (done ++ [x])).length + 1 = p + 2 := by rw [escL_app, List.length_append, hp]; show _ + (esc1 x ++ escL []).length + 1 = _; rw [e1]; show _ + 2 + 1 = _; omega
      rw [he] at ih
      exact ih
    · have e1 : esc1 x = [x] := esc1_one c
      rw [e1] at hes
      have hlen : (escL L).length = (escL done).length + 1 + (escL l).length := by rw [hes]; simp; omega
      have hq : quo L = (34 :: escL done) ++ x :: (escL l ++ [34]) := by unfold quo; rw [hes]; simp
      have hb := bt_quo L _ _ _ hq
      have hx := ex_quo L _ _ _ hq
      have hpl : (34 :: escL done).length = p := by rw [hp]; rfl
      rw [hpl] at hb hx
      have n1 : ¬ (x.toNat : Int) = 34 := fun h => c (.inl (UInt8.toNat_inj.1 (by show x.toNat = 34; omega)))
      have n2 : ¬ (x.toNat : Int) = 92 := fun h => c (.inr (UInt8.toNat_inj.1 (by show x.toNat = 92; omega)))
      have w1 := Lib.hid (wr1 p (by omega))
      have w3 := Lib.hid (wr3 (escL L).length (by omega))
      rw [w3.out, if_pos (by omega), if_pos (by omega), if_pos (by omega), hb, if_neg n1, if_neg n2, w1.out, if_pos (by omega), if_pos (by omega)]
      rw [show ((p + 1 : Nat) : Int).toNat = p + 1 from rfl, show (p : Int).toNat = p from rfl, hx, hdone, if_pos (by show done.length + 1 ≤ _; omega), app_one]
      have he : (escL (done ++ [x])).length + 1 = p + 1 := by rw [escL_app, List.length_append, hp]; show _ + (esc1 x ++ escL []).length + 1 = _; rw [e1]; show _ + 1 + 1 = _; omega
      rw [he] at ih
      exact ih
theorem unq (s : ByteArray) (hs : s.size ≤ 32) : gatehouselaw01_unquoted.f (s.size + 2) (⟨(quo s.data.toList).toArray⟩ : ByteArray) = some (s, true) := by
  have hl : s.data.toList.length = s.size := Array.length_toList
  have h2 := escL_len s.data.toList
  have hsz := qsize s.data.toList
  have hb0 : bt (⟨(quo s.data.toList).toArray⟩ : ByteArray) 0 = 34 := bt_quo s.data.toList [] 34 (escL s.data.toList ++ [34]) rfl
  have hbl : bt (⟨(quo s.data.toList).toArray⟩ : ByteArray) (((escL s.data.toList).length + 1 : Nat) : Int) = 34 := by
    have h := bt_quo s.data.toList (34 :: escL s.data.toList) 34 [] (by unfold quo; simp)
    exact h
  have w3 := Lib.hid (wr3 (escL s.data.toList).length (by omega))
  unfold gatehouselaw01_unquoted.f
  rw [hsz, if_neg (by omega), if_pos (by omega), hb0, if_pos rfl, w3.out, if_pos (by omega), if_pos (by omega), hbl]
  have h := unq_loop s.data.toList [] s.data.toList rfl (by omega) 0
  rw [hl] at h
  show (if ((34 : Int) != 34) = true then some ((⟨#[]⟩ : ByteArray), false) else gatehouselaw01_unquoted.l0 (s.size + 1) (⟨(quo s.data.toList).toArray⟩ : ByteArray) (⟨#[]⟩ : ByteArray) 1) = _
  rw [if_neg (by decide)]
  exact h
theorem written_facts (s : ByteArray) : ((writtenN s).2 = validN s) ∧ (validN s = false → (writtenN s).1 = ⟨#[]⟩ ∧ bareN s = false ∧ keyN s = false) ∧ (validN s = true → 1 ≤ s.size ∧ s.size ≤ 32 ∧ (writtenN s).1.size ≤ 66 ∧ (bareN s = true → keyN s = false ∧ (writtenN s).1 = s) ∧ (bareN s = false → gatehouselaw01_unquoted.f (s.size + 2) (writtenN s).1 = some (s, true) ∧ (writtenN s).1 ≠ s)) := by
  refine ⟨?_, ?_, ?_⟩
  · unfold writtenN
    cases hV : validN s
    · rfl
    · cases hB : bareN s <;> rfl
  · intro hV
    refine ⟨by unfold writtenN; rw [hV]; rfl, by unfold bareN; rw [hV]; rfl, ?_⟩
    cases hK : keyN s
    · rfl
    · rw [(key_cases hK).1] at hV; cases hV
  · intro hV
    have hz := valid_size hV
    have hl : s.data.toList.length = s.size := Array.length_toList
    have h2 := escL_len s.data.toList
    have hsz := qsize s.data.toList
    refine ⟨hz.1, hz.2, ?_, fun hB => ⟨(bare_head hB).2.2, by unfold writtenN; rw [hV, hB]; rfl⟩, fun hB => ?_⟩
    · unfold writtenN
      rw [hV]
      cases hB : bareN s
      · show (⟨(quo s.data.toList).toArray⟩ : ByteArray).size ≤ 66
        omega
      · show s.size ≤ 66
        omega
    · have e : (writtenN s).1 = ⟨(quo s.data.toList).toArray⟩ := by unfold writtenN; rw [hV, hB]; rfl
      rw [e]
      refine ⟨unq s hz.2, fun h => ?_⟩
      have h3 := congrArg ByteArray.size h
      rw [hsz] at h3
      have h4 : ∀ l : List UInt8, l.length ≤ (escL l).length := by
        intro l
        induction l with
        | nil => exact Nat.le_refl _
        | cons b l ih =>
          show _ ≤ (esc1 b ++ escL l).length
          have h1 : 1 ≤ (esc1 b).length := by unfold esc1; split; · simp
                                              · split <;> simp
          rw [List.length_append, List.length_cons]
          omega
      have := h4 s.data.toList
      omega
set_option maxHeartbeats 1000000 in
set_option maxRecDepth 100000 in
theorem back_walk (s : ByteArray) (w : World) (hs : s.size ≤ 9223372036854775807) (hT : Tabs w) :
    Calls Tryd.prog 5 #[.string s] w fun e w' => e = .returned (.bool true) ∧ Below w.heap.size w w' := by
  have C1 := Lib.hid (written_calls s w hs hT)
  have CV := Lib.hid (fun W (h : Below w.heap.size w W) => valid_calls s W hs (hT.below h))
  have CN := Lib.hid (fun W (h : Below w.heap.size w W) => known_calls W (hT.below h))
  have CB := Lib.hid (fun W (h : Below w.heap.size w W) => bare_calls s W hs (hT.below h))
  have CK := Lib.hid (fun W => names_Keyword.calls s (keyN s) W (key_f s))
  obtain ⟨hok, hno, hyes⟩ := written_facts s
  rw [hok] at C1
  obtain ⟨v, hv⟩ : ∃ v, v = (writtenN s).1 := ⟨_, rfl⟩
  rw [← hv] at C1 hno hyes
  clear hv hok hs hT
  cases hV : validN s
  · rw [hV] at C1 CV
    obtain ⟨rfl, hB, hK⟩ := hno hV
    rw [hB] at CB
    rw [hK] at CK
    clear hno hyes hB hK hV
    go_enter Tryd.func5, Tryd.ntmps5
    go_wp2_with (first | (go_at_call 14; refine C1.out.mono ?_; rintro e w1 ⟨rfl, hb⟩; have HB1 := Lib.hid hb; clear hb C1) | (go_at_call 8; refine (CV.out _ HB1.out).mono ?_; rintro e w2 ⟨rfl, hb⟩; have HB2 := Lib.hid (below_step HB1.out hb); clear hb CV) | (go_at_call 7; refine (CN.out _ HB2.out).mono ?_; rintro e w3 ⟨rfl, hb⟩; have HB3 := Lib.hid (below_step HB2.out hb); clear hb CN) | (go_at_call 12; refine (CB.out _ HB3.out).mono ?_; rintro e w4 ⟨rfl, hb⟩; have HB4 := Lib.hid (below_step HB3.out hb); clear hb CB) | (go_at_call 10; refine (CK.out _).mono ?_; rintro e w5 ⟨rfl, hb⟩; have HB5 := Lib.hid (below_step HB4.out hb.below); clear hb CK))
    go_ret
    exact ⟨rfl, HB5.out⟩
  · rw [hV] at C1 CV
    obtain ⟨z1, z2, z3, hb1, hb2⟩ := hyes hV
    have y1 : ¬ (s.size : Int) < 1 := by omega
    have y2 : ¬ (32 : Int) < (s.size : Int) := by omega
    have y3 : ¬ (66 : Int) < (v.size : Int) := by omega
    clear z1 z2 z3 hno hyes hV
    cases hB : bareN s
    · rw [hB] at CB
      obtain ⟨hu, hne⟩ := hb2 hB
      have CU := Lib.hid (fun W => gatehouselaw01_unquoted.calls (s.size + 2) v s true W hu)
      have q1 : (s.toList == s.toList) = true := beq_self_eq_true _
      have q2 : (v.toList == s.toList) = false := by rw [beq_iff_bytes]; exact decide_eq_false hne
      clear hb1 hb2 hB hu hne
      cases hK : keyN s
      all_goals (
        rw [hK] at CK
        go_enter Tryd.func5, Tryd.ntmps5
        go_wp2_with (first | (go_at_call 14; refine C1.out.mono ?_; rintro e w1 ⟨rfl, hb⟩; have HB1 := Lib.hid hb; clear hb C1) | (go_at_call 8; refine (CV.out _ HB1.out).mono ?_; rintro e w2 ⟨rfl, hb⟩; have HB2 := Lib.hid (below_step HB1.out hb); clear hb CV) | (go_at_call 7; refine (CN.out _ HB2.out).mono ?_; rintro e w3 ⟨rfl, hb⟩; have HB3 := Lib.hid (below_step HB2.out hb); clear hb CN) | (go_at_call 12; refine (CB.out _ HB3.out).mono ?_; rintro e w4 ⟨rfl, hb⟩; have HB4 := Lib.hid (below_step HB3.out hb); clear hb CB) | (go_at_call 10; refine (CK.out _).mono ?_; rintro e w5 ⟨rfl, hb⟩; have HB5 := Lib.hid (below_step HB4.out hb.below); clear hb CK) | (go_at_call 16; refine (CU.out _).mono ?_; rintro e w6 ⟨rfl, hb⟩; have HB6 := Lib.hid (below_step HB5.out hb.below); clear hb CU))
        go_ret
        exact ⟨rfl, HB6.out⟩)
    · rw [hB] at CB
      obtain ⟨hK, rfl⟩ := hb1 hB
      rw [hK] at CK
      have q1 : (v.toList == v.toList) = true := beq_self_eq_true _
      clear hb1 hb2 hB hK
      go_enter Tryd.func5, Tryd.ntmps5
      go_wp2_with (first | (go_at_call 14; refine C1.out.mono ?_; rintro e w1 ⟨rfl, hb⟩; have HB1 := Lib.hid hb; clear hb C1) | (go_at_call 8; refine (CV.out _ HB1.out).mono ?_; rintro e w2 ⟨rfl, hb⟩; have HB2 := Lib.hid (below_step HB1.out hb); clear hb CV) | (go_at_call 7; refine (CN.out _ HB2.out).mono ?_; rintro e w3 ⟨rfl, hb⟩; have HB3 := Lib.hid (below_step HB2.out hb); clear hb CN) | (go_at_call 12; refine (CB.out _ HB3.out).mono ?_; rintro e w4 ⟨rfl, hb⟩; have HB4 := Lib.hid (below_step HB3.out hb); clear hb CB) | (go_at_call 10; refine (CK.out _).mono ?_; rintro e w5 ⟨rfl, hb⟩; have HB5 := Lib.hid (below_step HB4.out hb.below); clear hb CK))
      go_ret
      exact ⟨rfl, HB5.out⟩
end Go.Proofs.YtaeijlkogenblaaDoor.F
