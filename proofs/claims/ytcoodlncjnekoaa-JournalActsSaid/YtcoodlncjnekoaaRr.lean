import Derived.Test.YtcoodlncjnekoaaRd
import Derived.Lib.Hide
/- The document's Read reads what the program's reads. Condition: the text's size is at most 1048576. -/
namespace Go.Proofs.Ytcoodlncjnekoaa.F
open Go.RowKit Go.Proofs.YtcoodlncjnekoaaW.PrintWords Go.Proofs.JournalPlain
set_option linter.unusedVariables false
theorem btinj {s t : ByteArray} (h : bytesOf s = bytesOf t) : s = t := by
  have e : ∀ x : ByteArray, strOfNums (bytesOf x) = x := fun x => by
    apply ByteArray.ext
    apply Array.ext'
    have hf : ((fun n : Int => UInt8.ofNat n.toNat) ∘ fun b : UInt8 => (b.toNat : Int)) = id := by funext b; simp
    simp [strOfNums, bytesOf, hf]
  rw [← e s, h, e]
theorem wrI (a : Int) (h0 : 0 ≤ a) (h : a ≤ 1000000000000) : wrap64 a = a := by unfold wrap64; omega
theorem nstep (k : Nat) (s : ByteArray) (p i : Nat) (acc : Int) (hi : p + i < s.size) (hs : s.size ≤ 1048576) (ha : 0 ≤ acc) (ha2 : acc < 16777216) :
    gatehouseref22_number.l0 (k + 1) s (p : Nat) acc (i : Nat) = gatehouseref22_number.l0 k s (p : Nat) (256 * acc + at_ s (p + i)) ((i : Int) - 1) := by
  have hr := at_range s (p + i)
  have w1 := Lib.hid (wrI ((p : Int) + (i : Int)) (by omega) (by omega))
  have w2 := Lib.hid (wrI (256 * acc) (by omega) (by omega))
  have w3 := Lib.hid (wrI (at_ s (p + i)) (by omega) (by omega))
  have w4 := Lib.hid (wrI (256 * acc + at_ s (p + i)) (by omega) (by omega))
  have w5 : wrap64 ((i : Int) - 1) = (i : Int) - 1 := by unfold wrap64; omega
  have w5' := Lib.hid w5
  clear w5
  have hb : bt s ((p : Int) + (i : Int)) = at_ s (p + i) := bt_at_ s (p + i)
  rw [gatehouseref22_number.l0, if_pos (by omega), w1.out, if_pos (by omega), if_pos (by omega), hb, w2.out, w3.out, w4.out, w5'.out]
theorem rnum_f (s : ByteArray) (p : Nat) (hs : s.size ≤ 1048576) (hp : p ≤ 2000000) (k : Nat) : gatehouseref22_number.f (k + 5) s (p : Nat) = some (if p + 4 ≤ s.size then num s p else -1) := by
  have w1 := Lib.hid (wrI ((p : Int) + 4) (by omega) (by omega))
  unfold gatehouseref22_number.f
  rw [w1.out]
  by_cases c : p + 4 ≤ s.size
  · rw [if_neg (by omega), if_pos c]
    have r0 := at_range s p
    have r1 := at_range s (p + 1)
    have r2 := at_range s (p + 2)
    have r3 := at_range s (p + 3)
    have s3 := nstep (k + 4) s p 3 0 (by omega) hs (by omega) (by omega)
    have s2 := nstep (k + 3) s p 2 (256 * 0 + at_ s (p + 3)) (by omega) hs (by omega) (by omega)
    have s1 := nstep (k + 2) s p 1 (256 * (256 * 0 + at_ s (p + 3)) + at_ s (p + 2)) (by omega) hs (by omega) (by omega)
    have s0 := nstep (k + 1) s p 0 (256 * (256 * (256 * 0 + at_ s (p + 3)) + at_ s (p + 2)) + at_ s (p + 1)) (by omega) hs (by omega) (by omega)
    refine Eq.trans s3 (Eq.trans s2 (Eq.trans s1 (Eq.trans s0 ?_)))
    rw [gatehouseref22_number.l0, if_neg (by decide)]
    unfold num
    have e0 : at_ s (p + 0) = at_ s p := rfl
    congr 1
    rw [e0]
    omega
  · rw [if_pos (by omega), if_neg c]
theorem wrN (a b : Nat) (h : a + b ≤ 1000000000) : wrap64 ((a : Int) + (b : Int)) = ((a + b : Nat) : Int) := by unfold wrap64; omega
theorem rstop (k : Nat) (s : ByteArray) (acc : List S23) (at0 : Int) (n v : Int) (t : ByteArray) : gatehouseref22_Read.j1 (k + 1) s acc at0 n true v t = some (acc, at0) := by
  rw [gatehouseref22_Read.j1, if_pos rfl]
theorem drop_ext (s : ByteArray) (a : Nat) (h : a ≤ s.size) : bytesOf (s.extract a s.size) = (bytesOf s).drop a := by
  rw [bytesOf_extract, List.take_of_length_le (by rw [bytesOf_length]; exact Nat.le_refl _)]
theorem ext_ext (s : ByteArray) (a n : Nat) (h : a + 13 + n ≤ s.size) : (s.extract a s.size).extract 13 (13 + n) = s.extract (a + 13) (a + 13 + n) := by
  apply btinj
  rw [bytesOf_extract, drop_ext _ _ (by omega), bytesOf_extract, List.drop_take, List.drop_drop, List.drop_take]
  congr 1
  omega
/-- One record, or the end. -/
theorem rstep (M : Nat) (hM : 1200000 ≤ M) (s : ByteArray) (hs : s.size ≤ 1048576) (acc : List S23) (hacc : acc.length < 5864062014805) (at0 : Nat) (ha : at0 ≤ s.size) :
    (∃ v t, Has (s.extract at0 s.size) v t ∧ at0 + (t.size + 17) ≤ s.size ∧ gatehouseref22_Read.l0 (M + 2) s acc (at0 : Nat) = gatehouseref22_Read.l0 (M) s (acc ++ [⟨v, t⟩]) ((at0 + (t.size + 17) : Nat) : Int)) ∨
    ((∀ v t, ¬ Has (s.extract at0 s.size) v t) ∧ gatehouseref22_Read.l0 (M + 2) s acc (at0 : Nat) = some (acc, (at0 : Int))) := by
  have hsz : (s.extract at0 s.size).size = s.size - at0 := by rw [size_extract]; omega
  have w1 := Lib.hid (wrN at0 1 (by omega))
  have w5 := Lib.hid (wrN at0 5 (by omega))
  have w13 := Lib.hid (wrN at0 13 (by omega))
  have hn1 := rnum_f s (at0 + 1) hs (by omega) (M - 4)
  have hn5 := rnum_f s (at0 + 5) hs (by omega) (M - 4)
  rw [show M - 4 + 5 = M + 1 by omega] at hn1 hn5
  have r1 := num_range s (at0 + 1)
  have r5 := num_range s (at0 + 5)
  have hl : ∀ (x : Int × Int), gatehouseref22_number.f (M + 1) s ((at0 + 1 : Nat) : Int) = some x.1 → gatehouseref22_number.f (M + 1) s ((at0 + 5 : Nat) : Int) = some x.2 → gatehouseref22_Read.l0 (M + 2) s acc (at0 : Nat) = (if x.2 < 0 then (gatehouseref22_Read.j1 (M + 1) s acc at0 x.2 true x.1 (⟨#[]⟩ : ByteArray)) else (if x.2 > 65536 then (gatehouseref22_Read.j1 (M + 1) s acc at0 x.2 true x.1 (⟨#[]⟩ : ByteArray)) else (gatehouseref22_Read.j1 (M + 1) s acc at0 x.2 (decide ((wrap64 ((wrap64 ((at0 : Int) + 13)) + x.2)) > (s.size : Int))) x.1 (⟨#[]⟩ : ByteArray)))) := by
    intro x h1 h2
    rw [gatehouseref22_Read.l0, show (at0 : Int) + 1 = (at0 : Int) + ((1 : Nat) : Int) from rfl, show (at0 : Int) + 5 = (at0 : Int) + ((5 : Nat) : Int) from rfl, w1.out, w5.out, h1, h2, Option.bind_some, Option.bind_some]
  by_cases c5 : at0 + 5 + 4 ≤ s.size
  · rw [if_pos c5] at hn5
    rw [if_pos (by omega)] at hn1
    have h := hl (num s (at0 + 1), num s (at0 + 5)) hn1 hn5
    have hx1 : num (s.extract at0 s.size) 1 = num s (at0 + 1) := num_extract s at0 1 ha
    have hx5 : num (s.extract at0 s.size) 5 = num s (at0 + 5) := num_extract s at0 5 ha
    obtain ⟨v, hv⟩ : ∃ v, v = num s (at0 + 1) := ⟨_, rfl⟩
    obtain ⟨n, hn⟩ : ∃ n : Nat, (n : Int) = num s (at0 + 5) := ⟨(num s (at0 + 5)).toNat, by omega⟩
    rw [← hv, ← hn] at h
    rw [← hv] at hx1 r1
    rw [← hn] at hx5 r5
    simp only at h
    rw [if_neg (by omega)] at h
    by_cases c6 : n > 65536
    · right
      rw [if_pos (show (n : Int) > 65536 by omega), rstop] at h
      refine ⟨fun v' t' hh => ?_, h⟩
      obtain ⟨_, _, _, _, _, _, h7, _⟩ := (has_iff _ v' t').1 hh
      rw [hx5] at h7
      omega
    · rw [if_neg (show ¬ (n : Int) > 65536 by omega), show (at0 : Int) + 13 = (at0 : Int) + ((13 : Nat) : Int) from rfl, w13.out] at h
      have w13n := Lib.hid (wrN (at0 + 13) n (by omega))
      rw [w13n.out] at h
      by_cases c13 : at0 + 13 + n ≤ s.size
      · rw [decide_eq_false (show ¬ (((at0 + 13 + n : Nat) : Int) > (s.size : Int)) by omega), gatehouseref22_Read.j1, if_neg (by decide), show (at0 : Int) + 13 = (at0 : Int) + ((13 : Nat) : Int) from rfl, w13.out, w13n.out, if_pos (by omega), if_pos (by omega), if_pos (by omega)] at h
        have e1 : ((at0 + 13 : Nat) : Int).toNat = at0 + 13 := rfl
        have e2 : ((at0 + 13 + n : Nat) : Int).toNat = at0 + 13 + n := rfl
        rw [e1, e2] at h
        obtain ⟨t, ht⟩ : ∃ t, t = s.extract (at0 + 13) (at0 + 13 + n) := ⟨_, rfl⟩
        have hts : t.size = n := by rw [ht, size_extract]; omega
        rw [← ht, RefFrame_f v t (M) (by unfold KR; omega)] at h
        have hht : (s.extract at0 s.size).extract 13 (13 + n) = t := by rw [ht]; exact ext_ext s at0 n (by omega)
        have huniq : ∀ v' t', Has (s.extract at0 s.size) v' t' → v' = v ∧ t' = t := by
          intro v' t' hh
          obtain ⟨_, _, _, h4, _, _, _, _, h9, _⟩ := (has_iff _ v' t').1 hh
          rw [hx1] at h4
          rw [hx5] at h9
          exact ⟨h4, by rw [h9]; exact hht⟩
        by_cases cf : fit_ v t
        · rw [frame_fit cf, Option.bind_some, if_pos (show ((frameB v t, (0 : Int)) : ByteArray × Int).2 = 0 from rfl)] at h
          have ef : ((frameB v t, (0 : Int)) : ByteArray × Int).1 = frameB v t := rfl
          rw [ef] at h
          have hfs := frameB_size v t
          have wf := Lib.hid (wrN at0 (frameB v t).size (by omega))
          by_cases cb : at0 + (t.size + 17) ≤ s.size ∧ s.extract at0 (at0 + (t.size + 17)) = frameB v t
          · left
            have hb : gatehouseref22_begins.f s (at0 : Nat) (frameB v t) = some true := by
              unfold gatehouseref22_begins.f
              rw [wf.out, hfs, if_pos (by omega), if_pos (by omega), if_pos (by omega)]
              have e3 : ((at0 + (t.size + 17) : Nat) : Int).toNat = at0 + (t.size + 17) := rfl
              have e4 : ((at0 : Nat) : Int).toNat = at0 := rfl
              rw [e3, e4, cb.2]
              simp
            rw [hb, Option.bind_some, if_pos rfl, if_pos hacc, wf.out, hfs] at h
            refine ⟨v, t, ⟨cf, (bytesOf s).drop (at0 + (t.size + 17)), ?_⟩, cb.1, ?_⟩
            · rw [drop_ext _ _ ha, ← bytesOf_frameB, ← cb.2, bytesOf_extract]
              have : ∀ (l : List Int) (a b : Nat), a ≤ b → l.drop a = (l.take b).drop a ++ l.drop b := by
                intro l a b hab
                have e := List.take_append_drop b l
                conv => lhs; rw [← e]
                rw [List.drop_append]
                rcases Nat.lt_or_ge b l.length with hh | hh
                · rw [List.length_take, Nat.min_eq_left (by omega), show a - b = 0 by omega, List.drop_zero]
                · rw [List.drop_of_length_le hh]
                  simp
              exact this _ _ _ (by omega)
            · exact h
          · right
            have hno : ∀ v' t', ¬ Has (s.extract at0 s.size) v' t' := by
              intro v' t' hh
              obtain ⟨rfl, rfl⟩ := huniq v' t' hh
              obtain ⟨_, m, hm⟩ := hh
              have hlen := congrArg List.length hm
              rw [bytesOf_length, hsz, List.length_append, recL_length] at hlen
              refine cb ⟨by omega, ?_⟩
              apply btinj
              rw [bytesOf_frameB, bytesOf_extract, List.drop_take]
              rw [drop_ext _ _ ha] at hm
              rw [hm, show at0 + (t'.size + 17) - at0 = (recL v' t').length by rw [recL_length]; omega]
              simp
            refine ⟨hno, ?_⟩
            have hb : gatehouseref22_begins.f s (at0 : Nat) (frameB v t) = some false := by
              unfold gatehouseref22_begins.f
              rw [wf.out, hfs]
              by_cases c7 : at0 + (t.size + 17) ≤ s.size
              · rw [if_pos (by omega), if_pos (by omega), if_pos (by omega)]
                have e3 : ((at0 + (t.size + 17) : Nat) : Int).toNat = at0 + (t.size + 17) := rfl
                have e4 : ((at0 : Nat) : Int).toNat = at0 := rfl
                rw [e3, e4]
                congr 1
                refine beq_eq_false_iff_ne.2 (fun hh => cb ⟨c7, ?_⟩)
                rw [ByteArray.toList_eq, ByteArray.toList_eq] at hh
                exact ByteArray.ext (Array.ext' hh)
              · rw [if_neg (by omega)]
            rw [hb, Option.bind_some, if_neg (by decide)] at h
            exact h
        · right
          refine ⟨fun v' t' hh => ?_, ?_⟩
          · obtain ⟨rfl, rfl⟩ := huniq v' t' hh
            exact cf hh.1
          · have hf2 : (frame v t).2 ≠ 0 := by
              unfold frame
              split
              · decide
              · rename_i c8
                split
                · decide
                · rename_i c9
                  exact absurd ⟨by omega, by omega, by omega⟩ cf
            rw [Option.bind_some, if_neg hf2] at h
            exact h
      · right
        rw [decide_eq_true (show (((at0 + 13 + n : Nat) : Int) > (s.size : Int)) by omega), rstop] at h
        refine ⟨fun v' t' hh => ?_, h⟩
        obtain ⟨_, _, _, _, _, _, _, h8, _⟩ := (has_iff _ v' t').1 hh
        rw [hx5, hsz] at h8
        have : ((n : Int)).toNat = n := rfl
        omega
  · right
    rw [if_neg c5] at hn5
    have h := hl (_, -1) hn1 hn5
    simp only at h
    rw [if_pos (by decide), rstop] at h
    refine ⟨fun v' t' hh => ?_, h⟩
    obtain ⟨h1, _⟩ := (has_iff _ v' t').1 hh
    rw [hsz] at h1
    omega
theorem reads_eq (s : ByteArray) (hs : s.size ≤ 1048576) : ∀ m at0 (acc : List S23), at0 ≤ s.size → s.size - at0 ≤ m → acc.length + m ≤ 2000000 →
    ∃ es e, (∀ M, 1200002 + 2 * m ≤ M → gatehouseref22_Read.l0 M s acc (at0 : Nat) = some (es, e)) ∧ (∀ K, 700001 + m ≤ K → journal_Read.l0 K s acc (at0 : Nat) = some (es, e)) ∧ es.length ≤ acc.length + m := by
  intro m
  induction m with
  | zero =>
    intro at0 acc h1 h2 h3
    have hno : ∀ v t, ¬ Has (s.extract at0 s.size) v t := by
      intro v t hh
      obtain ⟨h, _⟩ := (has_iff _ v t).1 hh
      rw [size_extract] at h
      omega
    refine ⟨acc, (at0 : Int), fun M hM => ?_, fun K hK => ?_, by omega⟩
    · obtain ⟨M', rfl⟩ : ∃ M', M = M' + 2 := ⟨M - 2, by omega⟩
      rcases rstep M' (by omega) s hs acc (by omega) at0 h1 with ⟨v, t, hh, _⟩ | ⟨_, h⟩
      · exact absurd hh (hno v t)
      · exact h
    · obtain ⟨K', rfl⟩ : ∃ K', K = K' + 1 := ⟨K - 1, by omega⟩
      exact Read_end K' s (by omega) acc at0 hno h1 (by omega)
  | succ m ih =>
    intro at0 acc h1 h2 h3
    by_cases hh : ∃ v t, Has (s.extract at0 s.size) v t
    · obtain ⟨v, t, hv⟩ := hh
      have hb : at0 + (t.size + 17) ≤ s.size := by
        rcases rstep 1200000 (Nat.le_refl _) s hs acc (by omega) at0 h1 with ⟨v2, t2, hh2, hb2, _⟩ | ⟨hno, _⟩
        · obtain ⟨rfl, rfl⟩ := has_unique hv hh2
          exact hb2
        · exact absurd hv (hno v t)
      obtain ⟨es, e, i1, i2, i3⟩ := ih (at0 + (t.size + 17)) (acc ++ [⟨v, t⟩]) hb (by omega) (by rw [List.length_append]; show acc.length + 1 + m ≤ _; omega)
      refine ⟨es, e, fun M hM => ?_, fun K hK => ?_, ?_⟩
      · obtain ⟨M', rfl⟩ : ∃ M', M = M' + 2 := ⟨M - 2, by omega⟩
        rcases rstep M' (by omega) s hs acc (by omega) at0 h1 with ⟨v2, t2, hh2, _, h⟩ | ⟨hno, _⟩
        · obtain ⟨rfl, rfl⟩ := has_unique hv hh2
          rw [h]
          exact i1 M' (by omega)
        · exact absurd hv (hno v t)
      · obtain ⟨K', rfl⟩ : ∃ K', K = K' + 1 := ⟨K - 1, by omega⟩
        rw [Read_step K' s (by omega) acc at0 v t hv h1 (by omega) (by omega)]
        exact i2 K' (by omega)
      · have h4 : (acc ++ [(⟨v, t⟩ : S23)]).length = acc.length + 1 := by rw [List.length_append]; rfl
        omega
    · have hno : ∀ v t, ¬ Has (s.extract at0 s.size) v t := fun v t h => hh ⟨v, t, h⟩
      refine ⟨acc, (at0 : Int), fun M hM => ?_, fun K hK => ?_, by omega⟩
      · obtain ⟨M', rfl⟩ : ∃ M', M = M' + 2 := ⟨M - 2, by omega⟩
        rcases rstep M' (by omega) s hs acc (by omega) at0 h1 with ⟨v, t, hh, _⟩ | ⟨_, h⟩
        · exact absurd hh (hno v t)
        · exact h
      · obtain ⟨K', rfl⟩ : ∃ K', K = K' + 1 := ⟨K - 1, by omega⟩
        exact Read_end K' s (by omega) acc at0 hno h1 (by omega)
theorem reads_two (s : ByteArray) (hs : s.size ≤ 1048576) : ∃ es e, (∀ M, 4000000 ≤ M → gatehouseref22_Read.f M s = some (es, e)) ∧ (∀ K, 4000000 ≤ K → journal_Read.f K s = some (es, e)) ∧ es.length ≤ 1048576 := by
  obtain ⟨es, e, h1, h2, h3⟩ := reads_eq s hs s.size 0 [] (Nat.zero_le _) (by omega) (by show 0 + s.size ≤ _; omega)
  exact ⟨es, e, fun M hM => h1 M (by omega), fun K hK => h2 K (by omega), by have h4 : ([] : List S23).length = 0 := rfl; omega⟩
end Go.Proofs.Ytcoodlncjnekoaa.F
