/- The document's disk: Open, New. Conditions: each theorem's own. -/
import Derived.Test.YtcoodlncjnekoaaEe
namespace Go.Proofs.Ytcoodlncjnekoaa.E
open Go.RowKit Go.Proofs.YtcoodlncjnekoaaW.PrintWords Go.Proofs.Ytcoodlncjnekoaa.D
set_option linter.unusedVariables false
set_option linter.unusedSimpArgs false
theorem ropen_bad (t : ByteArray) (room : Int) (w : World) (h : room < 0 ∨ 1048576 < room) :
    Calls Try.prog 55 #[.string t, .int .i64 room] w fun e w' => e = .returned (.tuple #[.pointer none, .int .i64 3]) ∧ Below w.heap.size w w' := by
  have hd : decide (room < 0) = true ∨ decide (room < 0) = false ∧ decide (1048576 < room) = true := by
    rcases h with h | h
    · exact .inl (decide_eq_true h)
    · by_cases h2 : room < 0
      · exact .inl (decide_eq_true h2)
      · exact .inr ⟨decide_eq_false h2, decide_eq_true h⟩
  clear h
  rcases hd with hd | ⟨hd, hd2⟩
  all_goals
    go_enter Try.func55, Try.ntmps55
    go_wp2
    go_ret2
    exact ⟨rfl, Below.refl _ _⟩
theorem ropen_full (t : ByteArray) (room : Int) (w : World) (h0 : 0 ≤ room) (h1 : room ≤ 1048576) (hf : room < (t.size : Int)) :
    Calls Try.prog 55 #[.string t, .int .i64 room] w fun e w' => e = .returned (.tuple #[.pointer none, .int .i64 210]) ∧ Below w.heap.size w w' := by
  have hd : decide (room < 0) = false := decide_eq_false (by omega)
  have hd2 : decide (1048576 < room) = false := decide_eq_false (by omega)
  have hd3 : decide (room < (t.size : Int)) = true := decide_eq_true hf
  clear h0 h1
  go_enter Try.func55, Try.ntmps55
  go_wp2
  go_ret2
  exact ⟨rfl, Below.refl _ _⟩
set_option maxRecDepth 100000 in
set_option maxHeartbeats 1000000 in
theorem ropen_ok (t : ByteArray) (room : Int) (w : World) (h0 : 0 ≤ room) (h1 : room ≤ 1048576) (hf : (t.size : Int) ≤ room) :
    Calls Try.prog 55 #[.string t, .int .i64 room] w fun e w' => ∃ g v, e = .returned (.tuple #[.pointer (some ⟨g, 0, none⟩), .int .i64 0]) ∧ Rk w' w.heap.size g v room (lay (bytesOf t) (bytesOf t).length) ∧ Below w.heap.size w w' := by
  have hd : decide (room < 0) = false := decide_eq_false (by omega)
  have hd2 : decide (1048576 < room) = false := decide_eq_false (by omega)
  have hd3 : decide (room < (t.size : Int)) = false := decide_eq_false (by omega)
  have htl : (t.size : Int) ≤ 1048576 := by omega
  have HSZ := Lib.hid (show t.size ≤ 1048576 from by omega)
  have mixed := mixed
  clear h0 h1 hf
  go_enter Try.func55, Try.ntmps55
  go_wp2_with (first | ((with_reducible refine gate_dst (N := 20) rfl ?_); refine box_event rfl (N := 20) rfl (cs := #[.int .i64 room, .slice none 0 0]) (t := 108) ?hr ?_; (case hr => first | (go_simp; done) | (go_simp; rfl)); intro g hg_ w1 hb1 hB1; have HLG := Lib.hid (show w.heap.size ≤ g from by rw [hg_]; exact Nat.le_refl _); clear hg_; have HB1 := Lib.hid hB1; have K1 := Lib.hid hb1; clear hb1 hB1))
  have HBW := Lib.hid HB1.out.size
  clear hd hd2 hd3
  go_loopw [7] (fun i wr => ∃ (k : Nat) (v' : Value), k ≤ t.size ∧ i = .int .i64 (k : Nat) ∧ App w1 wr w.heap.size g (.slice none 0 0) v' room (((bytesOf t).take k).map (fun b => (b, true)))) (fun i _ => t.size - (intOf i).toNat)
  case atStart => exact ⟨0, _, Nat.zero_le _, rfl, ⟨HLG.out, K1.out, own_nil _ _ _ _⟩, D.Left.refl _ _ _ _, .inl rfl⟩
  case round =>
    obtain ⟨k, v', hk, rfl, hA⟩ := hrel
    obtain ⟨Av, cv, rfl⟩ := own_slice2 hA.r.own
    have hbn : (((bytesOf t).take k).map (fun b => (b, true))).length = k := by rw [List.length_map, List.length_take, bytesOf_length]; omega
    by_cases hlt : k < t.size
    · have htk : (bytesOf t).take (k + 1) = (bytesOf t).take k ++ [((t[k]'hlt).toNat : Int)] := by rw [List.take_add_one, bt_get t k hlt]; rfl
      have hnx : ((bytesOf t).take (k + 1)).map (fun b => (b, true)) = (((bytesOf t).take k).map (fun b => (b, true))) ++ [(((t[k]'hlt).toNat : Int), true)] := by rw [htk, List.map_append]; rfl
      have HNX := Lib.hid hnx
      have HBN := Lib.hid hbn
      have HK := Lib.hid hlt
      have hki : (k : Int) < (t.size : Int) := by omega
      have c1 : wr.cell? ⟨g, 1, none⟩ = some (.slice Av (((bytesOf t).take k).map (fun b => (b, true))).length cv) := cells_at hA.r.blk 1
      have hgl := hA.r.lt
      have HA := Lib.hid hA
      have HBR := Lib.hid (Nat.le_trans HBW.out hA.l.1.size)
      clear htk hnx hbn hk hA
      generalize ((bytesOf t).take k).map (fun b => (b, true)) = bk at HA HNX HBN c1
      obtain ⟨n, hn⟩ : ∃ n, n = bk.length := ⟨_, rfl⟩
      rw [← hn] at c1 HBN HA
      have HNN := Lib.hid hn
      have HBL := Lib.hid (show (n + 1) * 2 ≤ 140737488355328 from by have := HBN.out; have := HSZ.out; have := HK.out; omega)
      have hc1 : wr.drew.cell? ⟨g, 1, none⟩ = some (.slice Av n cv) := c1
      have hc2 : (wr.alloc (.cells #[.int .u8 (((t[k]'hlt).toNat : Int)), .bool true] 110)).cell? ⟨g, 1, none⟩ = some (.slice Av n cv) := (World.cell?_of_block (heap_alloc_old wr _ hgl)).trans c1
      have HNE := Lib.hid (show some g ≠ (Value.slice Av n cv).ownBlock from by have := own_ne HA.out.r.own HA.out.r.blk (by decide); exact this)
      clear hn hgl
      go_wp2_with fail
      go_region_law (refine step_append_cells (w0 := wr.drew) (W := wr.drew) w.heap.size (by rfl) _ _ 106 110 (.agg #[.int .u8 0, .bool false]) 2 2 rfl Try.underlying106 info110 rfl (by decide) (by decide) (.slice Av n cv) n (bcel bk) [.int .u8 (((t[k]'hlt).toNat : Int)), .bool true] rfl rfl rfl (by simp [Value.oneCell']) (by have := HA.out.r.own; rw [← HNN.out] at this; exact this) (Below.refl w.heap.size _) HBR.out HBL.out ?_; intro v1 w4 hown hb4 hg4 hat; obtain ⟨A1, c2, rfl⟩ := own_slice2 hown; have hblk := (hg4.block g HA.out.r.lt HNE.out).trans HA.out.r.blk; have hf1 := fz_at hblk 1; have hg1_ := cells_at hblk 1; have HOW := Lib.hid hown; have HB4 := Lib.hid hb4; have HG4 := Lib.hid hg4; have HAT := Lib.hid hat; clear hown hb4 hg4 hat hblk)
      all_goals
        have HE := Lib.hid (app_end HA.out.drew HNN.out HBR.out HOW.out HB4.out HG4.out HAT.out rfl)
        clear HOW HB4 HG4 HAT hc1 hc2 hf1 hg1_ c1
        obtain ⟨w5, hw5⟩ : ∃ w5, w5 = w4.setCell ⟨g, 1, none⟩ (.slice A1 (n + 1) c2) := ⟨_, rfl⟩
        rw [← hw5] at HE ⊢
        clear hw5
        go_wp2_with fail
        go_roundw
        case rel => exact ⟨k + 1, _, HK.out, by go_num, by rw [HNX.out]; exact ⟨HE.out.r, HE.out.l, HE.out.at_⟩⟩
        case measure => have := HK.out; simp [intOf]; omega
    · obtain rfl : k = t.size := by omega
      have hall : (bytesOf t).take t.size = bytesOf t := List.take_of_length_le (by rw [bytesOf_length]; exact Nat.le_refl _)
      rw [hall, ← lay_all] at hA
      have HA := Lib.hid hA
      clear hlt hk hA hall hbn
      go_wp2
      go_ret2
      exact ⟨_, _, rfl, HA.out.r, HB1.out.trans HA.out.l.1⟩
/-- New is Open with no byte. -/
theorem rnew_bad (room : Int) (w : World) (h : room < 0 ∨ 1048576 < room) :
    Calls Try.prog 54 #[.int .i64 room] w fun e w' => e = .returned (.tuple #[.pointer none, .int .i64 3]) ∧ Below w.heap.size w w' := by
  have HO := Lib.hid (ropen_bad ⟨#[]⟩ room w h)
  clear h
  go_enter Try.func54, Try.ntmps54
  go_wp2_with (first | (go_at_call 55; refine HO.out.mono ?_; rintro e w2 ⟨rfl, hb⟩; have HB := Lib.hid hb; clear hb))
  go_ret2
  exact ⟨rfl, HB.out⟩
theorem rnew_ok (room : Int) (w : World) (h0 : 0 ≤ room) (h1 : room ≤ 1048576) :
    Calls Try.prog 54 #[.int .i64 room] w fun e w' => ∃ g v, e = .returned (.tuple #[.pointer (some ⟨g, 0, none⟩), .int .i64 0]) ∧ Rk w' w.heap.size g v room (lay [] 0) ∧ Below w.heap.size w w' := by
  have HO := Lib.hid (ropen_ok ⟨#[]⟩ room w h0 h1 h0)
  clear h0 h1
  go_enter Try.func54, Try.ntmps54
  go_wp2_with (first | (go_at_call 55; refine HO.out.mono ?_; rintro e w2 ⟨g, v, rfl, hr, hb⟩; have HR := Lib.hid hr; have HB := Lib.hid hb; clear hr hb))
  go_ret2
  exact ⟨_, _, rfl, HR.out, HB.out⟩
end Go.Proofs.Ytcoodlncjnekoaa.E
