/- DiskKeeps: the walk. Conditions: none. -/
import Derived.Test.YtcoodlncjnekoaaKp
namespace Go.Proofs.Ytcoodlncjnekoaa.D
open Go.RowKit Go.Proofs.YtcoodlncjnekoaaW.PrintWords Go.Proofs.Ytcoodlncjnekoaa.G
set_option linter.unusedVariables false
theorem cells46 {w : World} {g : Nat} {a : Int} {b : Bool} {c : ByteArray} (h : w.heap[g]? = some (.cells #[.int .i64 a, .bool b, .string c] 46 (0, 0))) : w.cell? ⟨g, 0, none⟩ = some (.int .i64 a) ∧ w.cell? ⟨g, 2, none⟩ = some (.string c) :=
  ⟨(cells_at h 0).trans rfl, (cells_at h 2).trans rfl⟩
theorem cells50 {w : World} {g : Nat} {a b d : Int} {c : ByteArray} (h : w.heap[g]? = some (.cells #[.int .i64 a, .int .i64 b, .string c, .int .i64 d] 50 (0, 0))) : w.cell? ⟨g, 0, none⟩ = some (.int .i64 a) ∧ w.cell? ⟨g, 2, none⟩ = some (.string c) ∧ w.cell? ⟨g, 3, none⟩ = some (.int .i64 d) :=
  ⟨(cells_at h 0).trans rfl, (cells_at h 2).trans rfl, (cells_at h 3).trans rfl⟩
set_option maxHeartbeats 4000000 in
set_option maxRecDepth 100000 in
theorem keeps_walk (room : Int) (fresh : Bool) (T0 : ByteArray) (A : Option Addr) (c : Nat) (xs : List S50) (w : World) (hc : xs.length ≤ c) (hr : Kd.C k50 w A xs.length xs) (hm : xs.length ≤ 9223372036854775807)
    (hT : T0.size ≤ 140737488351232) (hx : ∀ x ∈ xs, x.f2.size ≤ 140737488351232 ∧ -9223372036854775808 ≤ x.f3 ∧ x.f3 ≤ 9223372036854775807) :
    Calls Try.prog 6 #[.agg #[.int .i64 room, .bool fresh, .string T0], .slice A xs.length c] w fun e w' => e = .returned (.bool true) ∧ Below w.heap.size w w' := by
  have hu46 := Try.underlying46
  have hu50 := Try.underlying50
  have HR := Lib.hid hr
  have HX := Lib.hid hx
  have HT := Lib.hid hT
  clear hr hx hT
  by_cases hbad : room < 0 ∨ 1048576 < room
  · have HO := Lib.hid (fun W => open_bad T0 room W hbad)
    have hd : decide (room < 0) = true ∨ decide (room < 0) = false ∧ decide (1048576 < room) = true := by
      rcases hbad with h | h
      · exact .inl (decide_eq_true h)
      · by_cases h2 : room < 0
        · exact .inl (decide_eq_true h2)
        · exact .inr ⟨decide_eq_false h2, decide_eq_true h⟩
    clear hbad
    rcases hd with hd | ⟨hd, hd2⟩
    all_goals
      go_enter Try.func6, Try.ntmps6
      go_wp2_with ((with_reducible refine gate_dst (N := 2) rfl ?_); refine box_event rfl (N := 2) rfl (cs := #[.int .i64 room, .bool fresh, .string T0]) (t := 46) ?hr ?_; (case hr => first | (go_simp; done) | (go_simp; rfl)); intro g0 hg w1 hb0 hbel; have HB := Lib.hid hbel; have BK0 := Lib.hid hb0; clear hg hb0 hbel)
      refine (fixed_calls _).mono ?_
      rintro e w2 ⟨rfl, hb⟩
      have BK2 := Lib.hid (blk_below BK0.out hb)
      have HB2 := Lib.hid (below_step HB.out hb)
      clear hb
      obtain ⟨c0, c2⟩ := cells46 BK2.out
      go_wp2_with fail
      refine (HO.out _).mono ?_
      rintro e w3 ⟨rfl, hb⟩
      have BK3 := Lib.hid (blk_below BK2.out hb)
      have HB3 := Lib.hid (below_step HB2.out hb)
      clear hb c0 c2
      obtain ⟨c0, c2⟩ := cells46 BK3.out
      go_wp2_with fail
      go_ret
      exact ⟨rfl, HB3.out⟩
  · by_cases hfull : room < (T0.size : Int)
    · have HO := Lib.hid (fun W => open_full T0 room W (by omega) (by omega) HT.out hfull)
      have hd : decide (room < 0) = false := decide_eq_false (by omega)
      have hd2 : decide (1048576 < room) = false := decide_eq_false (by omega)
      have hd3 : decide (room < (T0.size : Int)) = true := decide_eq_true hfull
      clear hbad hfull
      go_enter Try.func6, Try.ntmps6
      go_wp2_with ((with_reducible refine gate_dst (N := 2) rfl ?_); refine box_event rfl (N := 2) rfl (cs := #[.int .i64 room, .bool fresh, .string T0]) (t := 46) ?hr ?_; (case hr => first | (go_simp; done) | (go_simp; rfl)); intro g0 hg w1 hb0 hbel; have HB := Lib.hid hbel; have BK0 := Lib.hid hb0; clear hg hb0 hbel)
      refine (fixed_calls _).mono ?_
      rintro e w2 ⟨rfl, hb⟩
      have BK2 := Lib.hid (blk_below BK0.out hb)
      have HB2 := Lib.hid (below_step HB.out hb)
      clear hb
      obtain ⟨c0, c2⟩ := cells46 BK2.out
      go_wp2_with fail
      refine (HO.out _).mono ?_
      rintro e w3 ⟨rfl, hb⟩
      have BK3 := Lib.hid (blk_below BK2.out hb)
      have HB3 := Lib.hid (below_step HB2.out hb)
      clear hb c0 c2
      obtain ⟨c0, c2⟩ := cells46 BK3.out
      go_wp2_with fail
      go_ret
      exact ⟨rfl, HB3.out⟩
    · have HO := Lib.hid (fun W => open_dk T0 room W (by omega) (by omega) (by omega))
      have hrm : 0 ≤ room ∧ room ≤ 1048576 ∧ (T0.size : Int) ≤ room := by omega
      have HRM := Lib.hid hrm
      clear hbad hfull hrm
      go_enter Try.func6, Try.ntmps6
      go_wp2_with ((with_reducible refine gate_dst (N := 2) rfl ?_); refine box_event rfl (N := 2) rfl (cs := #[.int .i64 room, .bool fresh, .string T0]) (t := 46) ?hr ?_; (case hr => first | (go_simp; done) | (go_simp; rfl)); intro g0 hg w1 hb0 hbel; have HB := Lib.hid hbel; have BK0 := Lib.hid hb0; clear hg hb0 hbel)
      refine (fixed_calls _).mono ?_
      rintro e w2 ⟨rfl, hb⟩
      have BK2 := Lib.hid (blk_below BK0.out hb)
      have HB2 := Lib.hid (below_step HB.out hb)
      clear hb
      obtain ⟨c0, c2⟩ := cells46 BK2.out
      go_wp2_with fail
      refine (HO.out _).mono ?_
      rintro e w3 ⟨g, v, rfl, hd, hb⟩
      have HD3 := Lib.hid hd
      have HB3 := Lib.hid hb
      have BK3 := Lib.hid (blk_below BK2.out hb)
      clear hb c0 c2 hd
      obtain ⟨c0, c2⟩ := cells46 BK3.out
      go_wp2_with fail
      clear c0 c2
      go_loopw [5, 8, 9, 10] (fun ok s8 s9 i wr => ∃ k v T s, k ≤ xs.length ∧ ok = .bool true ∧ i = .int .i64 (k : Nat) ∧ s8 = .string (ex T s) ∧ s9 = .string T ∧ s ≤ T.size ∧ (T.size : Int) ≤ room ∧ Dk wr w2.heap.size g v room s T ∧ Below w2.heap.size w2 wr) (fun _ _ _ i _ => xs.length - (intOf i).toNat)
      case atStart => exact ⟨0, v, T0, T0.size, Nat.zero_le _, rfl, rfl, by rw [ex_all], rfl, Nat.le_refl _, HRM.out.2.2, HD3.out, HB3.out⟩
      case round =>
        obtain ⟨k, v, T, s, hk, rfl, rfl, rfl, rfl, hs, hTr, hd, hb⟩ := hrel
        by_cases hlt : k < xs.length
        · obtain ⟨ad, rfl, e0, e1, e2, e3⟩ := at_T50 HR.out (k : Int) (by omega) (by omega)
          have hW := below_step HB2.out hb
          have hel := HX.out _ (List.getElem_mem hlt)
          have hrd : rd_T50 xs (k : Int) = xs[k] := by unfold rd_T50; simp [List.getD_eq_getElem?_getD, hlt]
          rw [hrd] at e0 e1 e2 e3
          simp only [Int.toNat_natCast] at e0 e1 e2 e3
          obtain ⟨⟨kd, dk, tx, nn⟩, hop⟩ : ∃ o, o = xs[k] := ⟨_, rfl⟩
          rw [← hop] at e0 e1 e2 e3 hel
          replace e0 := (hW.cell (World.block_lt_of_cell? w _ e0)).trans e0
          replace e1 := (hW.cell (World.block_lt_of_cell? w _ e1)).trans e1
          replace e2 := (hW.cell (World.block_lt_of_cell? w _ e2)).trans e2
          replace e3 := (hW.cell (World.block_lt_of_cell? w _ e3)).trans e3
          simp only at e0 e1 e2 e3 hel
          have hkb : (k : Int) < (xs.length : Int) := by omega
          have HKL := Lib.hid (show k + 1 ≤ xs.length from hlt)
          clear hop hrd hW hk hlt
          have HD := Lib.hid hd
          have HBR := Lib.hid hb
          clear hd hb
          go_upto_block 2 with fail
          clear e0 e1 e2 e3
          obtain ⟨W, hW⟩ : ∃ W, W = wr.alloc (.cells #[.int .i64 kd, .int .i64 dk, .string tx, .int .i64 nn] 50) := ⟨_, rfl⟩
          obtain ⟨go, hgo⟩ : ∃ go, go = wr.heap.size := ⟨_, rfl⟩
          have BKW := Lib.hid (show W.heap[go]? = some (.cells #[.int .i64 kd, .int .i64 dk, .string tx, .int .i64 nn] 50 (0, 0)) by rw [hW, hgo]; show (wr.heap.push _)[wr.heap.size]? = _; simp)
          have HDW := Lib.hid (show Dk W w2.heap.size g v room s T by rw [hW]; exact HD.out.below (below_alloc (Below.refl _ _) _))
          have HBW := Lib.hid (show Below w2.heap.size w2 W by rw [hW]; exact below_alloc HBR.out _)
          rw [← hW, ← hgo]
          have HTX := Lib.hid hel
          clear hW hgo HD HBR hel
          have HSZ := Lib.hid (And.intro hs hTr)
          clear hs hTr
          go_cut [8, 9] (fun s8 s9 wx => ∃ v T s, s8 = .string (ex T s) ∧ s9 = .string T ∧ s ≤ T.size ∧ (T.size : Int) ≤ room ∧ Dk wx w2.heap.size g v room s T ∧ wx.heap[go]? = some (.cells #[.int .i64 kd, .int .i64 dk, .string tx, .int .i64 nn] 50 (0, 0)) ∧ Below w2.heap.size w2 wx)
          case first =>
            obtain ⟨a0, a2, a3⟩ := cells50 BKW.out
            by_cases k1 : kd = 1
            · subst k1
              by_cases hfit : (tx.size : Int) ≤ room - T.size
              · have HA := Lib.hid (append_dk HDW.out tx HTX.out.1 HRM.out.2.1 HSZ.out.2 (HBW.out.size))
                simp only [hfit, if_true] at HA
                have hw1 : wrap64 (room - (T.size : Int)) = room - (T.size : Int) := by have := HRM.out; have := HSZ.out; unfold wrap64; omega
                have hd1 : decide ((tx.size : Int) ≤ room - (T.size : Int)) = true := decide_eq_true hfit
                have hq : (9223372036854775807 < T.size + tx.size) = False := eq_false (by have := HRM.out; omega)
                have HF := Lib.hid hfit
                clear hfit
                go_wp2_with fail
                refine HA.out.mono ?_
                rintro e w4 ⟨rfl, v', hd, hl⟩
                have HD4 := Lib.hid hd
                have BK4 := Lib.hid (hl.keep HDW.out BKW.out (by decide) (by decide))
                have HB4 := Lib.hid (HBW.out.trans hl.1)
                clear hd hl a0 a2 a3
                obtain ⟨a0, a2, a3⟩ := cells50 BK4.out
                obtain ⟨c0, c2⟩ := cells46 (blk_below BK2.out HB4.out)
                go_wp2_with fail
                go_meet
                have hz := HSZ.out
                exact ⟨v', T ++ tx, s, by rw [ex_app T tx s hz.1], rfl, by rw [ByteArray.size_append]; omega, by rw [ByteArray.size_append]; have := HF.out; omega, HD4.out, BK4.out, HB4.out⟩
              · have HA := Lib.hid (append_dk HDW.out tx HTX.out.1 HRM.out.2.1 HSZ.out.2 (HBW.out.size))
                simp only [hfit, if_false] at HA
                have hw1 : wrap64 (room - (T.size : Int)) = room - (T.size : Int) := by have := HRM.out; have := HSZ.out; unfold wrap64; omega
                have hd1 : decide ((tx.size : Int) ≤ room - (T.size : Int)) = false := decide_eq_false hfit
                clear hfit
                go_wp2_with fail
                refine HA.out.mono ?_
                rintro e w4 ⟨rfl, hd, hl⟩
                have HD4 := Lib.hid hd
                have BK4 := Lib.hid (hl.keep HDW.out BKW.out (by decide) (by decide))
                have HB4 := Lib.hid (HBW.out.trans hl.1)
                clear hd hl a0 a2 a3
                obtain ⟨a0, a2, a3⟩ := cells50 BK4.out
                obtain ⟨c0, c2⟩ := cells46 (blk_below BK2.out HB4.out)
                go_wp2_with fail
                go_meet
                exact ⟨v, T, s, rfl, rfl, HSZ.out.1, HSZ.out.2, HD4.out, BK4.out, HB4.out⟩
            · have k1' : (kd == 1) = false := beq_eq_false_iff_ne.2 k1
              by_cases k2 : kd = 2
              · subst k2
                have HA := Lib.hid (sync_dk HDW.out)
                go_wp2_with fail
                refine HA.out.mono ?_
                rintro e w4 ⟨rfl, hd, hl⟩
                have HD4 := Lib.hid hd
                have BK4 := Lib.hid (hl.keep HDW.out BKW.out (by decide) (by decide))
                have HB4 := Lib.hid (HBW.out.trans hl.1)
                clear hd hl
                go_wp2_with fail
                go_meet
                exact ⟨v, T, T.size, by rw [ex_all], rfl, Nat.le_refl _, HSZ.out.2, HD4.out, BK4.out, HB4.out⟩
              · have k2' : (kd == 2) = false := beq_eq_false_iff_ne.2 k2
                go_wp2_with fail
                go_meet
                exact ⟨v, T, s, rfl, rfl, HSZ.out.1, HSZ.out.2, HDW.out, BKW.out, HBW.out⟩
          case rest =>
            obtain ⟨v, T, s, rfl, rfl, hs, hTr, hd, bk, hb⟩ := hcut
            have HD4 := Lib.hid hd
            have BK4 := Lib.hid bk
            have HB4 := Lib.hid hb
            have hTm : T.size ≤ 1048576 := by have := HRM.out; omega
            have hnr := HTX.out.2
            obtain ⟨q1, q2⟩ := cutN_range T s nn (by omega) (by omega)
            obtain ⟨n1, hn1⟩ : ∃ n1, n1 = (cutN T s nn).toNat := ⟨_, rfl⟩
            have HC1 := Lib.hid (cut_ex HD4.out nn hs hTm)
            rw [← hn1] at HC1
            have hsn : s ≤ n1 := by omega
            have hnT : n1 ≤ T.size := by omega
            have hes : (ex T s).size = s := ex_size T s hs
            have he1 : (ex T n1).size = n1 := ex_size T n1 hnT
            have hwd : wrap64 ((T.size : Int) - (s : Int)) = (T.size : Int) - (s : Int) := by unfold wrap64; omega
            have HNN := Lib.hid (show n1 = (cutN T s nn).toNat from hn1)
            have HSN := Lib.hid hsn
            have HNT := Lib.hid hnT
            have HS := Lib.hid hs
            have HTR := Lib.hid hTr
            have HTM := Lib.hid hTm
            have HNR := Lib.hid hnr
            have HQ := Lib.hid (And.intro q1 q2)
            clear hd bk hb hn1 q1 q2 hsn hnT hs hTr hTm hnr BKW HDW HBW HSZ
            obtain ⟨a0, a2, a3⟩ := cells50 BK4.out
            go_wp2_with fail
            refine HC1.out.mono ?_
            rintro e w5 ⟨rfl, hd, hl⟩
            have HD5 := Lib.hid hd
            have BK5 := Lib.hid (hl.keep HD4.out BK4.out (by decide) (by decide))
            have HB5 := Lib.hid (HB4.out.trans hl.1)
            clear hd hl a0 a2 a3
            obtain ⟨a0, a2, a3⟩ := cells50 BK5.out
            go_upto_if 114 with fail
            go_cut [15] (fun s15 wx => ∃ n2, s15 = .string (ex T n2) ∧ n1 ≤ n2 ∧ n2 ≤ T.size ∧ Dk wx w2.heap.size g v room s T ∧ wx.heap[go]? = some (.cells #[.int .i64 kd, .int .i64 dk, .string tx, .int .i64 nn] 50 (0, 0)) ∧ Below w2.heap.size w2 wx)
            case first =>
              by_cases hlt2 : nn < 9223372036854775807
              · have hd1 := decide_eq_true hlt2
                have hng : ¬ (9223372036854775807 : Int) ≤ nn := Int.not_le.2 hlt2
                have hw2 : wrap64 (nn + 1) = nn + 1 := by have := HNR.out; unfold wrap64; omega
                have HC2 := Lib.hid (cut_ex HD5.out (nn + 1) HS.out HTM.out)
                obtain ⟨q1, q2⟩ := cutN_range T s (nn + 1) (by omega) (by have := HS.out; omega)
                have hle : cutN T s nn ≤ cutN T s (nn + 1) := by unfold cutN; omega
                obtain ⟨n2, hn2⟩ : ∃ n2, n2 = (cutN T s (nn + 1)).toNat := ⟨_, rfl⟩
                rw [← hn2] at HC2
                have H2 := Lib.hid (show n1 ≤ n2 ∧ n2 ≤ T.size by have := HNN.out; omega)
                clear hlt2 q1 q2 hle hn2
                go_wp2_with fail
                refine HC2.out.mono ?_
                rintro e w6 ⟨rfl, hd, hl⟩
                have HD6 := Lib.hid hd
                have BK6 := Lib.hid (hl.keep HD5.out BK5.out (by decide) (by decide))
                have HB6 := Lib.hid (HB5.out.trans hl.1)
                clear hd hl
                go_wp2_with fail
                go_meet
                exact ⟨n2, rfl, H2.out.1, H2.out.2, HD6.out, BK6.out, HB6.out⟩
              · have hd1 := decide_eq_false hlt2
                have hge : (9223372036854775807 : Int) ≤ nn := Int.not_lt.1 hlt2
                go_wp2_with fail
                all_goals (first | (exfalso; omega) | (go_meet; exact ⟨n1, rfl, Nat.le_refl _, HNT.out, HD5.out, BK5.out, HB5.out⟩))
            case rest =>
              obtain ⟨n2, rfl, hn12, hn2T, hd, bk, hb⟩ := hcut
              have HD6 := Lib.hid hd
              have BK6 := Lib.hid bk
              have HB6 := Lib.hid hb
              have HN12 := Lib.hid hn12
              have HN2T := Lib.hid hn2T
              clear hd bk hb hn12 hn2T a0 a2 a3
              go_wp2_with fail
              refine (begins_calls T s n1 HSN.out HNT.out _).mono ?_
              rintro e w7 ⟨rfl, hdr⟩
              have HD7 := Lib.hid (HD6.out.below hdr.below)
              have BK7 := Lib.hid (blk_below BK6.out hdr.below)
              have HB7 := Lib.hid (below_step HB6.out hdr.below)
              clear hdr
              go_wp2_with fail
              refine (begins_calls T n1 n2 HN12.out HN2T.out _).mono ?_
              rintro e w8 ⟨rfl, hdr⟩
              have HD8 := Lib.hid (HD7.out.below hdr.below)
              have BK8 := Lib.hid (blk_below BK7.out hdr.below)
              have HB8 := Lib.hid (below_step HB7.out hdr.below)
              clear hdr
              go_wp2_with fail
              have hb9 := begins_calls T n2 T.size HN2T.out (Nat.le_refl _) w8
              rw [ex_all] at hb9
              refine hb9.mono ?_
              rintro e w9 ⟨rfl, hdr⟩
              have HD9 := Lib.hid (HD8.out.below hdr.below)
              have BK9 := Lib.hid (blk_below BK8.out hdr.below)
              have HB9 := Lib.hid (below_step HB8.out hdr.below)
              clear hdr hb9
              go_wp2_with fail
              refine (bytes_dk HD9.out).mono ?_
              rintro e w10 ⟨rfl, hd, hl⟩
              have HD10 := Lib.hid hd
              have BK10 := Lib.hid (hl.keep HD9.out BK9.out (by decide) (by decide))
              have HB10 := Lib.hid (HB9.out.trans hl.1)
              clear hd hl
              go_wp2_with fail
              refine (safe_dk HD10.out).mono ?_
              rintro e w11 ⟨rfl, rfl⟩
              obtain ⟨a0, a2, a3⟩ := cells50 BK10.out
              rcases Int.lt_or_le 0 nn with hp | hp
              · have hd1 := decide_eq_true hp
                rcases Int.lt_or_le nn ((T.size : Int) - s) with hp2 | hp2
                · have hd2 := decide_eq_true hp2
                  have hw3 : wrap64 ((s : Int) + nn) = (s : Int) + nn := by have := HTM.out; have := HS.out; unfold wrap64; omega
                  have hfin : ((n1 : Int) == (s : Int) + nn) = true := beq_iff_eq.2 (by rw [HNN.out]; have := HS.out; unfold cutN; omega)
                  clear hp hp2
                  go_wp2_with fail
                  go_roundw
                  case rel => exact ⟨k + 1, v, T, s, HKL.out, rfl, by go_num, rfl, rfl, HS.out, HTR.out, HD10.out, HB10.out⟩
                  case measure => have := HKL.out; simp [intOf]; omega
                · have hd2 := decide_eq_false (Int.not_lt.2 hp2)
                  have hfin : ((n1 : Int) == (T.size : Int)) = true := beq_iff_eq.2 (by rw [HNN.out]; have := HS.out; unfold cutN; omega)
                  clear hp hp2
                  go_wp2_with fail
                  go_roundw
                  case rel => exact ⟨k + 1, v, T, s, HKL.out, rfl, by go_num, rfl, rfl, HS.out, HTR.out, HD10.out, HB10.out⟩
                  case measure => have := HKL.out; simp [intOf]; omega
              · have hd1 := decide_eq_false (Int.not_lt.2 hp)
                have hfin : ((n1 : Int) == (s : Int)) = true := beq_iff_eq.2 (by rw [HNN.out]; have := HS.out; unfold cutN; omega)
                clear hp
                go_wp2_with fail
                go_roundw
                case rel => exact ⟨k + 1, v, T, s, HKL.out, rfl, by go_num, rfl, rfl, HS.out, HTR.out, HD10.out, HB10.out⟩
                case measure => have := HKL.out; simp [intOf]; omega
        · obtain rfl : k = xs.length := by omega
          have HBE := Lib.hid hb
          clear hb hd hs hTr hk hlt
          go_wp2_with fail
          go_ret
          exact ⟨rfl, below_step HB2.out HBE.out⟩
end Go.Proofs.Ytcoodlncjnekoaa.D
