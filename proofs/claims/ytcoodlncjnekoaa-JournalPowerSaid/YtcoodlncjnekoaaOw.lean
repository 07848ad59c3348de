/- DiskOutlives: the walk. Conditions: none. -/
import Derived.Test.YtcoodlncjnekoaaKw
namespace Go.Proofs.Ytcoodlncjnekoaa.D
open Go.RowKit Go.Proofs.YtcoodlncjnekoaaW.PrintWords Go.Proofs.Ytcoodlncjnekoaa.G
set_option linter.unusedVariables false
theorem foot_ge {w : World} {B g i : Nat} {v : Value} {room safe : Int} {T : ByteArray} (h : Dk w B g v room safe T) (hf : foot g v i) : B ≤ i := by
  rcases hf with rfl | hf
  · exact h.base
  · exact (h.own.lt i hf).1
theorem foot_lt {w : World} {B g i : Nat} {v : Value} {room safe : Int} {T : ByteArray} (h : Dk w B g v room safe T) (hf : foot g v i) : i < w.heap.size := by
  rcases hf with rfl | hf
  · exact h.lt
  · exact (h.own.lt i hf).2
theorem below_weak {B B' : Nat} {a w : World} (h : Below B' a w) (hb : B ≤ B') : Below B a w := ⟨h.os, h.tape, h.output, h.size, fun k hk => h.block k (by omega)⟩
theorem append_any {w : World} {B g : Nat} {v : Value} {room safe : Int} {T : ByteArray} (h : Dk w B g v room safe T) (s : ByteArray) (hs : s.size ≤ 140737488351232) (hr : room ≤ 1048576) (hr0 : (T.size : Int) ≤ room) (hBw : B ≤ w.heap.size) :
    Calls Try.prog 31 #[.pointer (some ⟨g, 0, none⟩), .string s] w fun e w' => ∃ r v' T', e = .returned (.int .i64 r) ∧ Dk w' B g v' room safe T' ∧ (T' = T ∨ T' = T ++ s) ∧ (T'.size : Int) ≤ room ∧ Left w w' B g v := by
  refine (append_dk h s hs hr hr0 hBw).mono ?_
  intro e w' he
  by_cases c : (s.size : Int) ≤ room - T.size
  · rw [if_pos c] at he
    obtain ⟨rfl, v', h1, h2⟩ := he
    exact ⟨0, v', T ++ s, rfl, h1, .inr rfl, by rw [ByteArray.size_append]; omega, h2⟩
  · rw [if_neg c] at he
    obtain ⟨rfl, h1, h2⟩ := he
    exact ⟨210, v, T, rfl, h1, .inl rfl, hr0, h2⟩
theorem ex_or (T T' t : ByteArray) (h : T' = T ∨ T' = T ++ t) : ex T' T.size = T ∧ T.size ≤ T'.size := by
  rcases h with rfl | rfl
  · exact ⟨ex_all _, Nat.le_refl _⟩
  · exact ⟨by rw [ex_app T t T.size (Nat.le_refl _), ex_all], by rw [ByteArray.size_append]; omega⟩
theorem cut_at {w : World} {B g : Nat} {v : Value} {room : Int} {T L : ByteArray} (h : Dk w B g v room L.size T) (keep : Int) (hk : keep ≤ 0) (he : ex T L.size = L) (hs : L.size ≤ T.size) (hT : T.size ≤ 1048576) :
    Calls Try.prog 28 #[.pointer (some ⟨g, 0, none⟩), .int .i64 keep] w fun e w' => e = .returned (.string L) ∧ Dk w' B g v room L.size T ∧ Left w w' B g v := by
  have hc := cut_ex h keep hs hT
  have hn : (cutN T (L.size : Int) keep).toNat = L.size := by unfold cutN; omega
  rw [hn, he] at hc
  exact hc
set_option maxHeartbeats 4000000 in
set_option maxRecDepth 100000 in
theorem outlives_walk (room : Int) (fresh : Bool) (T0 : ByteArray) (A : Option Addr) (c : Nat) (xs : List S50) (w : World) (hc : xs.length ≤ c) (hr : Kd.C k50 w A xs.length xs) (hm : xs.length ≤ 9223372036854775807)
    (hT : T0.size ≤ 140737488351232) (hx : ∀ x ∈ xs, x.f2.size ≤ 140737488351232 ∧ -9223372036854775808 ≤ x.f3 ∧ x.f3 ≤ 9223372036854775807) :
    Calls Try.prog 7 #[.agg #[.int .i64 room, .bool fresh, .string T0], .slice A xs.length c] w fun e w' => e = .returned (.bool true) ∧ Below w.heap.size w w' := by
  have hu46 := Try.underlying46
  have hu50 := Try.underlying50
  have HR := Lib.hid hr
  have HX := Lib.hid hx
  have HT := Lib.hid hT
  clear hr hx hT
  by_cases hbad : room < 0 ∨ 1048576 < room
  · have HO := Lib.hid (fun W => open_bad T0 room W hbad)
    have hd : decide (room < 0) = true ∨ decide (room < 0) = false ∧ decide (1048576 < room) = true := by
      rcases hbad with h | h
      · exact .inl (decide_eq_true h)
      · by_cases h2 : room < 0
        · exact .inl (decide_eq_true h2)
        · exact .inr ⟨decide_eq_false h2, decide_eq_true h⟩
    clear hbad
    rcases hd with hd | ⟨hd, hd2⟩
    all_goals
      go_enter Try.func7, Try.ntmps7
      go_wp2_with ((with_reducible refine gate_dst (N := 2) rfl ?_); refine box_event rfl (N := 2) rfl (cs := #[.int .i64 room, .bool fresh, .string T0]) (t := 46) ?hr ?_; (case hr => first | (go_simp; done) | (go_simp; rfl)); intro g0 hg w1 hb0 hbel; have HB := Lib.hid hbel; have BK0 := Lib.hid hb0; clear hg hb0 hbel)
      refine (fixed_calls _).mono ?_
      rintro e w2 ⟨rfl, hb⟩
      have BK2 := Lib.hid (blk_below BK0.out hb)
      have HB2 := Lib.hid (below_step HB.out hb)
      clear hb
      obtain ⟨c0, c2⟩ := cells46 BK2.out
      go_wp2_with fail
      refine (HO.out _).mono ?_
      rintro e w3 ⟨rfl, hb⟩
      have BK3 := Lib.hid (blk_below BK2.out hb)
      have HB3 := Lib.hid (below_step HB2.out hb)
      clear hb c0 c2
      obtain ⟨c0, c2⟩ := cells46 BK3.out
      go_wp2_with fail
      go_ret
      exact ⟨rfl, HB3.out⟩
  · by_cases hfull : room < (T0.size : Int)
    · have HO := Lib.hid (fun W => open_full T0 room W (by omega) (by omega) HT.out hfull)
      have hd : decide (room < 0) = false := decide_eq_false (by omega)
      have hd2 : decide (1048576 < room) = false := decide_eq_false (by omega)
      have hd3 : decide (room < (T0.size : Int)) = true := decide_eq_true hfull
      clear hbad hfull
      go_enter Try.func7, Try.ntmps7
      go_wp2_with ((with_reducible refine gate_dst (N := 2) rfl ?_); refine box_event rfl (N := 2) rfl (cs := #[.int .i64 room, .bool fresh, .string T0]) (t := 46) ?hr ?_; (case hr => first | (go_simp; done) | (go_simp; rfl)); intro g0 hg w1 hb0 hbel; have HB := Lib.hid hbel; have BK0 := Lib.hid hb0; clear hg hb0 hbel)
      refine (fixed_calls _).mono ?_
      rintro e w2 ⟨rfl, hb⟩
      have BK2 := Lib.hid (blk_below BK0.out hb)
      have HB2 := Lib.hid (below_step HB.out hb)
      clear hb
      obtain ⟨c0, c2⟩ := cells46 BK2.out
      go_wp2_with fail
      refine (HO.out _).mono ?_
      rintro e w3 ⟨rfl, hb⟩
      have BK3 := Lib.hid (blk_below BK2.out hb)
      have HB3 := Lib.hid (below_step HB2.out hb)
      clear hb c0 c2
      obtain ⟨c0, c2⟩ := cells46 BK3.out
      go_wp2_with fail
      go_ret
      exact ⟨rfl, HB3.out⟩
    · have HO := Lib.hid (fun W => open_dk T0 room W (by omega) (by omega) (by omega))
      have hrm : 0 ≤ room ∧ room ≤ 1048576 ∧ (T0.size : Int) ≤ room := by omega
      have HRM := Lib.hid hrm
      clear hbad hfull hrm
      go_enter Try.func7, Try.ntmps7
      go_wp2_with ((with_reducible refine gate_dst (N := 2) rfl ?_); refine box_event rfl (N := 2) rfl (cs := #[.int .i64 room, .bool fresh, .string T0]) (t := 46) ?hr ?_; (case hr => first | (go_simp; done) | (go_simp; rfl)); intro g0 hg w1 hb0 hbel; have HB := Lib.hid hbel; have BK0 := Lib.hid hb0; clear hg hb0 hbel)
      refine (fixed_calls _).mono ?_
      rintro e w2 ⟨rfl, hb⟩
      have BK2 := Lib.hid (blk_below BK0.out hb)
      have HB2 := Lib.hid (below_step HB.out hb)
      clear hb
      obtain ⟨c0, c2⟩ := cells46 BK2.out
      go_wp2_with fail
      refine (HO.out _).mono ?_
      rintro e w3 ⟨g, v, rfl, hd, hb⟩
      have HD3 := Lib.hid hd
      have HB3 := Lib.hid hb
      have BK3 := Lib.hid (blk_below BK2.out hb)
      clear hb c0 c2 hd
      obtain ⟨c0, c2⟩ := cells46 BK3.out
      go_wp2_with fail
      clear c0 c2
      go_loopw [5, 6, 8] (fun ok dp i wr => ∃ (k g : Nat) (v : Value) (T : ByteArray) (s : Nat), k ≤ xs.length ∧ ok = .bool true ∧ dp = .pointer (some ⟨g, 0, none⟩) ∧ i = .int .i64 (k : Nat) ∧ s ≤ T.size ∧ (T.size : Int) ≤ room ∧ Dk wr w2.heap.size g v room s T ∧ Below w2.heap.size w2 wr) (fun _ _ i _ => xs.length - (intOf i).toNat)
      case atStart => exact ⟨0, g, v, T0, T0.size, Nat.zero_le _, rfl, rfl, rfl, Nat.le_refl _, HRM.out.2.2, HD3.out, HB3.out⟩
      case round =>
        obtain ⟨k, g, v, T, s, hk, rfl, rfl, rfl, hs, hTr, hd, hb⟩ := hrel
        by_cases hlt : k < xs.length
        · obtain ⟨ad, rfl, e0, e1, e2, e3⟩ := at_T50 HR.out (k : Int) (by omega) (by omega)
          have hW := below_step HB2.out hb
          have hel := HX.out _ (List.getElem_mem hlt)
          have hrd : rd_T50 xs (k : Int) = xs[k] := by unfold rd_T50; simp [List.getD_eq_getElem?_getD, hlt]
          rw [hrd] at e0 e1 e2 e3
          simp only [Int.toNat_natCast] at e0 e1 e2 e3
          obtain ⟨⟨kd, dk, tx, nn⟩, hop⟩ : ∃ o, o = xs[k] := ⟨_, rfl⟩
          rw [← hop] at e0 e1 e2 e3 hel
          replace e0 := (hW.cell (World.block_lt_of_cell? w _ e0)).trans e0
          replace e1 := (hW.cell (World.block_lt_of_cell? w _ e1)).trans e1
          replace e2 := (hW.cell (World.block_lt_of_cell? w _ e2)).trans e2
          replace e3 := (hW.cell (World.block_lt_of_cell? w _ e3)).trans e3
          simp only at e0 e1 e2 e3 hel
          have hkb : (k : Int) < (xs.length : Int) := by omega
          have HKL := Lib.hid (show k + 1 ≤ xs.length from hlt)
          clear hop hrd hW hk hlt
          have HD := Lib.hid hd
          have HBR := Lib.hid hb
          clear hd hb
          go_upto_region 9 with fail
          clear e0 e1 e2 e3
          obtain ⟨W, hW⟩ : ∃ W, W = wr.alloc (.cells #[.int .i64 kd, .int .i64 dk, .string tx, .int .i64 nn] 50) := ⟨_, rfl⟩
          obtain ⟨go, hgo⟩ : ∃ go, go = wr.heap.size := ⟨_, rfl⟩
          have BKW := Lib.hid (show W.heap[go]? = some (.cells #[.int .i64 kd, .int .i64 dk, .string tx, .int .i64 nn] 50 (0, 0)) by rw [hW, hgo]; show (wr.heap.push _)[wr.heap.size]? = _; simp)
          have HDW := Lib.hid (show Dk W w2.heap.size g v room s T by rw [hW]; exact HD.out.below (below_alloc (Below.refl _ _) _))
          have HBW := Lib.hid (show Below w2.heap.size w2 W by rw [hW]; exact below_alloc HBR.out _)
          rw [← hW, ← hgo]
          have HTX := Lib.hid hel
          clear hW hgo HD HBR hel
          have HSZ := Lib.hid (And.intro hs hTr)
          clear hs hTr
          have HA := Lib.hid (append_any HDW.out tx HTX.out.1 HRM.out.2.1 HSZ.out.2 (HBW.out.size))
          have HNR := Lib.hid HTX.out.2
          obtain ⟨a0, a2, a3⟩ := cells50 BKW.out
          go_wp2_with fail
          refine HA.out.mono ?_
          rintro e w4 ⟨r4, v4, T4, rfl, hd, ho, hr, hl⟩
          have HD4 := Lib.hid hd
          have BK4 := Lib.hid (hl.keep HDW.out BKW.out (by decide) (by decide))
          have HB4 := Lib.hid (HBW.out.trans hl.1)
          have HS4 := Lib.hid (show s ≤ T4.size from Nat.le_trans HSZ.out.1 (ex_or T T4 _ ho).2)
          have HTr5 := Lib.hid hr
          clear hd ho hr hl a0 a2 a3 HA HDW BKW HBW HSZ
          obtain ⟨a0, a2, a3⟩ := cells50 BK4.out
          by_cases k2 : kd = 2
          · subst k2
            go_wp2_with fail
            refine (sync_dk HD4.out).mono ?_
            rintro e w4s ⟨rfl, hd, hl⟩
            have HD5 := Lib.hid hd
            have BK5 := Lib.hid (hl.keep HD4.out BK4.out (by decide) (by decide))
            have HB5 := Lib.hid (HB4.out.trans hl.1)
            have HS5 := Lib.hid (Nat.le_refl T4.size)
            clear hd hl a0 a2 a3
            obtain ⟨q1, q2⟩ := cutN_range T4 T4.size nn (by omega) (by have := HS5.out; omega)
            obtain ⟨L, hL⟩ : ∃ L, L = ex T4 (cutN T4 T4.size nn).toNat := ⟨_, rfl⟩
            have HLs := Lib.hid (show L.size ≤ T4.size by rw [hL, ex_size _ _ (by omega)]; omega)
            have HC1 := Lib.hid (cut_ex HD5.out nn HS5.out (by have := HTr5.out; have := HRM.out; omega))
            rw [← hL] at HC1
            clear q1 q2 hL
            obtain ⟨a0, a2, a3⟩ := cells50 BK5.out
            go_wp2_with fail
            refine HC1.out.mono ?_
            rintro e w5 ⟨rfl, hd, hl⟩
            have HDb := Lib.hid hd
            have HBb := Lib.hid (HB5.out.trans hl.1)
            clear hd hl a0 a2 a3
            go_wp2_with fail
            refine (bytes_dk HDb.out).mono ?_
            rintro e w6 ⟨rfl, hd, hl⟩
            have HD6 := Lib.hid hd
            have HB6 := Lib.hid (HBb.out.trans hl.1)
            clear hd hl
            obtain ⟨c0, c2⟩ := cells46 (blk_below BK2.out HB6.out)
            have HO2 := Lib.hid (fun W => open_dk L room W HRM.out.1 HRM.out.2.1 (by have := HLs.out; have := HTr5.out; omega))
            go_wp2_with fail
            refine (HO2.out _).mono ?_
            rintro e w7 ⟨g2, v2, rfl, hd, hb⟩
            have HN7 := Lib.hid hd
            have HBn7 := Lib.hid hb
            clear hd hb c0 c2
            go_wp2_with fail
            refine (bytes_dk HN7.out).mono ?_
            rintro e w8 ⟨rfl, hd, hl⟩
            have HN8 := Lib.hid hd
            have HBn8 := Lib.hid (HBn7.out.trans hl.1)
            clear hd hl
            go_wp2_with fail
            refine (safe_dk HN8.out).mono ?_
            rintro e w8 ⟨rfl, rfl⟩
            have HLm := Lib.hid (show L.size ≤ 1048576 by have := HLs.out; have := HTr5.out; have := HRM.out; omega)
            have HCm := Lib.hid (cut_at HN8.out (-1) (by decide) (ex_all L) (Nat.le_refl _) HLm.out)
            go_wp2_with fail
            refine HCm.out.mono ?_
            rintro e w9 ⟨rfl, hd, hl⟩
            have HN9 := Lib.hid hd
            have HBn9 := Lib.hid (HBn8.out.trans hl.1)
            clear hd hl
            have HAx := Lib.hid (append_any HN9.out (⟨#[120]⟩ : ByteArray) (by decide) HRM.out.2.1 (by have := HLs.out; have := HTr5.out; omega) HBn9.out.size)
            go_wp2_with fail
            refine HAx.out.mono ?_
            rintro e w10 ⟨r10, v10, T10, rfl, hd, ho, hr, hl⟩
            have HN10 := Lib.hid hd
            have HBn10 := Lib.hid (HBn9.out.trans hl.1)
            have HX10 := Lib.hid (ex_or L T10 _ ho)
            have HT10 := Lib.hid (show T10.size ≤ 1048576 by have := HRM.out; omega)
            clear hd hl ho hr
            have HD10 := Lib.hid (HD6.out.below HBn10.out)
            go_wp2_with fail
            refine (bytes_dk HD10.out).mono ?_
            rintro e w11 ⟨rfl, hd, hl⟩
            have HN11 := Lib.hid (HN10.out.move (fun i hi hf => hl.2 i hi (fun hf2 => by have h1 := foot_ge HN10.out hf; have h2 := foot_lt HD6.out hf2; omega)))
            have HB11 := Lib.hid ((below_step HB6.out HBn10.out).trans hl.1)
            have HS11 := Lib.hid (Nat.le_trans HBn10.out.size hl.1.size)
            clear hd hl
            have HC0 := Lib.hid (cut_at HN11.out 0 (Int.le_refl _) HX10.out.1 HX10.out.2 HT10.out)
            go_wp2_with fail
            refine HC0.out.mono ?_
            rintro e w12 ⟨rfl, hd, hl⟩
            have HB12 := Lib.hid (HB11.out.trans (below_weak hl.1 HB6.out.size))
            clear hd hl
            obtain ⟨c0, c2⟩ := cells46 (blk_below BK2.out HB12.out)
            go_wp2_with fail
            refine (HO2.out _).mono ?_
            rintro e w13 ⟨g3, v3, rfl, hd, hb⟩
            have HN13 := Lib.hid hd
            have HB13 := Lib.hid (below_step HB12.out hb)
            clear hd hb c0 c2
            go_wp2_with fail
            go_roundw
            case rel => exact ⟨k + 1, g3, v3, L, L.size, HKL.out, rfl, rfl, by go_num, Nat.le_refl _, by have := HLs.out; have := HTr5.out; omega, HN13.out.lower HB12.out.size, HB13.out⟩
            case measure => have := HKL.out; simp [intOf]; omega
          · have k2' : (kd == 2) = false := beq_eq_false_iff_ne.2 k2
            have HS5 := HS4
            clear a0 a2 a3
            obtain ⟨q1, q2⟩ := cutN_range T4 s nn (by omega) (by have := HS5.out; omega)
            obtain ⟨L, hL⟩ : ∃ L, L = ex T4 (cutN T4 s nn).toNat := ⟨_, rfl⟩
            have HLs := Lib.hid (show L.size ≤ T4.size by rw [hL, ex_size _ _ (by omega)]; omega)
            have HC1 := Lib.hid (cut_ex HD4.out nn HS5.out (by have := HTr5.out; have := HRM.out; omega))
            rw [← hL] at HC1
            clear q1 q2 hL
            obtain ⟨a0, a2, a3⟩ := cells50 BK4.out
            go_wp2_with fail
            refine HC1.out.mono ?_
            rintro e w5 ⟨rfl, hd, hl⟩
            have HDb := Lib.hid hd
            have HBb := Lib.hid (HB4.out.trans hl.1)
            clear hd hl a0 a2 a3
            go_wp2_with fail
            refine (bytes_dk HDb.out).mono ?_
            rintro e w6 ⟨rfl, hd, hl⟩
            have HD6 := Lib.hid hd
            have HB6 := Lib.hid (HBb.out.trans hl.1)
            clear hd hl
            obtain ⟨c0, c2⟩ := cells46 (blk_below BK2.out HB6.out)
            have HO2 := Lib.hid (fun W => open_dk L room W HRM.out.1 HRM.out.2.1 (by have := HLs.out; have := HTr5.out; omega))
            go_wp2_with fail
            refine (HO2.out _).mono ?_
            rintro e w7 ⟨g2, v2, rfl, hd, hb⟩
            have HN7 := Lib.hid hd
            have HBn7 := Lib.hid hb
            clear hd hb c0 c2
            go_wp2_with fail
            refine (bytes_dk HN7.out).mono ?_
            rintro e w8 ⟨rfl, hd, hl⟩
            have HN8 := Lib.hid hd
            have HBn8 := Lib.hid (HBn7.out.trans hl.1)
            clear hd hl
            go_wp2_with fail
            refine (safe_dk HN8.out).mono ?_
            rintro e w8 ⟨rfl, rfl⟩
            have HLm := Lib.hid (show L.size ≤ 1048576 by have := HLs.out; have := HTr5.out; have := HRM.out; omega)
            have HCm := Lib.hid (cut_at HN8.out (-1) (by decide) (ex_all L) (Nat.le_refl _) HLm.out)
            go_wp2_with fail
            refine HCm.out.mono ?_
            rintro e w9 ⟨rfl, hd, hl⟩
            have HN9 := Lib.hid hd
            have HBn9 := Lib.hid (HBn8.out.trans hl.1)
            clear hd hl
            have HAx := Lib.hid (append_any HN9.out (⟨#[120]⟩ : ByteArray) (by decide) HRM.out.2.1 (by have := HLs.out; have := HTr5.out; omega) HBn9.out.size)
            go_wp2_with fail
            refine HAx.out.mono ?_
            rintro e w10 ⟨r10, v10, T10, rfl, hd, ho, hr, hl⟩
            have HN10 := Lib.hid hd
            have HBn10 := Lib.hid (HBn9.out.trans hl.1)
            have HX10 := Lib.hid (ex_or L T10 _ ho)
            have HT10 := Lib.hid (show T10.size ≤ 1048576 by have := HRM.out; omega)
            clear hd hl ho hr
            have HD10 := Lib.hid (HD6.out.below HBn10.out)
            go_wp2_with fail
            refine (bytes_dk HD10.out).mono ?_
            rintro e w11 ⟨rfl, hd, hl⟩
            have HN11 := Lib.hid (HN10.out.move (fun i hi hf => hl.2 i hi (fun hf2 => by have h1 := foot_ge HN10.out hf; have h2 := foot_lt HD6.out hf2; omega)))
            have HB11 := Lib.hid ((below_step HB6.out HBn10.out).trans hl.1)
            have HS11 := Lib.hid (Nat.le_trans HBn10.out.size hl.1.size)
            clear hd hl
            have HC0 := Lib.hid (cut_at HN11.out 0 (Int.le_refl _) HX10.out.1 HX10.out.2 HT10.out)
            go_wp2_with fail
            refine HC0.out.mono ?_
            rintro e w12 ⟨rfl, hd, hl⟩
            have HB12 := Lib.hid (HB11.out.trans (below_weak hl.1 HB6.out.size))
            clear hd hl
            obtain ⟨c0, c2⟩ := cells46 (blk_below BK2.out HB12.out)
            go_wp2_with fail
            refine (HO2.out _).mono ?_
            rintro e w13 ⟨g3, v3, rfl, hd, hb⟩
            have HN13 := Lib.hid hd
            have HB13 := Lib.hid (below_step HB12.out hb)
            clear hd hb c0 c2
            go_wp2_with fail
            go_roundw
            case rel => exact ⟨k + 1, g3, v3, L, L.size, HKL.out, rfl, rfl, by go_num, Nat.le_refl _, by have := HLs.out; have := HTr5.out; omega, HN13.out.lower HB12.out.size, HB13.out⟩
            case measure => have := HKL.out; simp [intOf]; omega
        · obtain rfl : k = xs.length := by omega
          have HBE := Lib.hid hb
          clear hb hd hs hTr hk hlt
          go_wp2_with fail
          go_ret
          exact ⟨rfl, below_step HB2.out HBE.out⟩
end Go.Proofs.Ytcoodlncjnekoaa.D
