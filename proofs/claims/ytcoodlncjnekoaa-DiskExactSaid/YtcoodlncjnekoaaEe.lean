/- The document's disk: Append, Open, New. Conditions: each theorem's own. -/
import Derived.Test.YtcoodlncjnekoaaEd
namespace Go.Proofs.Ytcoodlncjnekoaa.E
open Go.RowKit Go.Proofs.YtcoodlncjnekoaaW.PrintWords Go.Proofs.Ytcoodlncjnekoaa.D
set_option linter.unusedVariables false
set_option linter.unusedSimpArgs false
theorem info110 : (Try.prog.info? 110).map (fun i => (i.zero, i.size, i.bytes)) = some (some (.agg #[.int .u8 0, .bool false]), 2, 2) := by kernel_rfl
theorem any_drewC {P : Program} {c : Code} {Q : Exit → Act → World → Prop} {a : Act} {w1 : World} (h : ∀ w2, (∃ n, w2 = w1.drewN n) → Code.wp P c Q a w2) (n : Nat) : Code.wp P c Q a (w1.drewN n) := h _ ⟨n, rfl⟩
theorem bt_get (t : ByteArray) (k : Nat) (h : k < t.size) : (bytesOf t)[k]? = some ((t[k]'h).toNat : Int) := by
  have : k < t.data.toList.length := by rw [data_length]; exact h
  simp only [bytesOf, List.getElem?_map, List.getElem?_eq_getElem this, Option.map_some]
  rfl
/-- What an append of one byte leaves. -/
structure App (w w2 : World) (B g : Nat) (v v1 : Value) (room : Int) (bk : List (Int × Bool)) : Prop where
  r : Rk w2 B g v1 room bk
  l : D.Left w w2 B g v
  at_ : v1.ownBlock = v.ownBlock ∨ ∃ b, v1.ownBlock = some b ∧ w.heap.size ≤ b
theorem App.drew {w wr : World} {B g : Nat} {v v1 : Value} {room : Int} {bk : List (Int × Bool)} (h : App w wr B g v v1 room bk) : App w wr.drew B g v v1 room bk := ⟨h.r.move (fun _ _ _ => rfl), ⟨below_drew h.l.1, h.l.2⟩, h.at_⟩
theorem app_end {w wr w1 w2 : World} {B g n : Nat} {v A1 : Value} {A : Option Addr} {c : Nat} {room x : Int} {y : Bool} {bk : List (Int × Bool)} (h : App w wr B g v (.slice A n c) room bk) (hn : n = bk.length) (hB : B ≤ wr.heap.size)
    (hown : w1.ownsRow B 110 2 A1 (n + 1) (bcel bk ++ [.int .u8 x, .bool y])) (hb : Below B wr w1) (hg : wr.grownBy w1 (Value.slice A n c).ownBlock) (hat : A1.ownBlock = (Value.slice A n c).ownBlock ∨ ∃ b, A1.ownBlock = some b ∧ wr.heap.size ≤ b) (h2 : w2 = w1.setCell ⟨g, 1, none⟩ A1) :
    App w w2 B g v A1 room (bk ++ [(x, y)]) := by
  subst hn
  have hgl := h.r.lt
  have hne : some g ≠ (Value.slice A bk.length c).ownBlock := own_ne h.r.own h.r.blk (by decide)
  have hb1 : w1.heap[g]? = some (.cells #[.int .i64 room, .slice A bk.length c] 108 (0, 0)) := (hg.block g hgl hne).trans h.r.blk
  have hs := h.l.1.size
  have ho2 : w1.ownsRow B 110 2 A1 (bk ++ [(x, y)]).length (bcel (bk ++ [(x, y)])) := by
    rw [bcel_app, List.length_append, List.length_singleton]
    exact hown
  refine ⟨⟨h.r.base, by rw [h2]; exact blk_set hb1 1 A1, by rw [h2]; exact own_setCell ho2 (p := ⟨g, 1, none⟩) (own_ne ho2 hb1 (by decide)) _⟩, ⟨by rw [h2]; exact (h.l.1.trans hb).setCell (p := ⟨g, 1, none⟩) h.r.base _, fun i hi hf => ?_⟩, ?_⟩
  · rw [h2, Below.heap_setCell _ _ _ _ (fun e => hf (.inl e)), hg.block i (by omega) (fun e => ?_)]
    · exact h.l.2 i hi hf
    · rcases h.at_ with e1 | ⟨b, e1, hle⟩
      · exact hf (.inr (by rw [← e1]; exact e.symm))
      · rw [e1] at e; injection e with e; omega
  · rcases hat with e | ⟨b, e, hle⟩
    · rw [e]; exact h.at_
    · exact .inr ⟨b, e, by omega⟩
theorem rapp_full {w : World} {B g : Nat} {v : Value} {room : Int} {bs : List (Int × Bool)} (h : Rk w B g v room bs) (t : ByteArray) (hbl : bs.length ≤ 1048576) (hrm : 0 ≤ room ∧ room ≤ 1048576) (hf : ¬ (t.size : Int) ≤ room - bs.length) :
    Calls Try.prog 56 #[.pointer (some ⟨g, 0, none⟩), .string t] w fun e w' => e = .returned (.int .i64 210) ∧ Below w.heap.size w w' := by
  obtain ⟨A, c, rfl⟩ := own_slice2 h.own
  have c0 : w.cell? ⟨g, 0, none⟩ = some (.int .i64 room) := cells_at h.blk 0
  have c1 : w.cell? ⟨g, 1, none⟩ = some (.slice A bs.length c) := cells_at h.blk 1
  have hw1 : wrap64 (room - (bs.length : Int)) = room - (bs.length : Int) := by unfold wrap64; omega
  have hd : decide (room - (bs.length : Int) < (t.size : Int)) = true := decide_eq_true (by omega)
  clear h hbl hrm hf
  go_enter Try.func56, Try.ntmps56
  go_wp2_with fail
  go_quiet (fail)
  go_wp2_with fail
  go_ret
  exact ⟨rfl, drewN_below w _ _⟩
set_option maxRecDepth 100000 in
set_option maxHeartbeats 1000000 in
theorem rapp_fits {w : World} {B g : Nat} {v : Value} {room : Int} {bs : List (Int × Bool)} (h : Rk w B g v room bs) (t : ByteArray) (hbl : bs.length ≤ 1048576) (hrm : 0 ≤ room ∧ room ≤ 1048576) (hf : (t.size : Int) ≤ room - bs.length) (hB : B ≤ w.heap.size) :
    Calls Try.prog 56 #[.pointer (some ⟨g, 0, none⟩), .string t] w fun e w' => e = .returned (.int .i64 0) ∧ ∃ v', App w w' B g v v' room (bs ++ (bytesOf t).map (fun b => (b, false))) := by
  obtain ⟨A, c, rfl⟩ := own_slice2 h.own
  have c0 : w.cell? ⟨g, 0, none⟩ = some (.int .i64 room) := cells_at h.blk 0
  have c1 : w.cell? ⟨g, 1, none⟩ = some (.slice A bs.length c) := cells_at h.blk 1
  have hw1 : wrap64 (room - (bs.length : Int)) = room - (bs.length : Int) := by unfold wrap64; omega
  have hd : decide (room - (bs.length : Int) < (t.size : Int)) = false := decide_eq_false (by omega)
  have htl : (t.size : Int) ≤ 1048576 := by omega
  have HH := Lib.hid h
  have HBW := Lib.hid hB
  have HSZ := Lib.hid (show bs.length + t.size ≤ 1048576 from by omega)
  have mixed := mixed
  clear h hbl hrm hf hB
  go_enter Try.func56, Try.ntmps56
  go_wp2_with fail
  go_quiet (fail)
  go_wp2_with fail
  clear c0 c1 hw1 hd
  go_loopw [5] (fun i wr => ∃ (k : Nat) (v' : Value), k ≤ t.size ∧ i = .int .i64 (k : Nat) ∧ App w wr B g (.slice A bs.length c) v' room (bs ++ ((bytesOf t).take k).map (fun b => (b, false)))) (fun i _ => t.size - (intOf i).toNat)
  case atStart => exact ⟨0, _, Nat.zero_le _, rfl, by simp; exact HH.out.move (fun _ _ _ => rfl), ⟨drewN_below w _ _, fun _ _ _ => rfl⟩, .inl rfl⟩
  case round =>
    obtain ⟨k, v', hk, rfl, hA⟩ := hrel
    obtain ⟨Av, cv, rfl⟩ := own_slice2 hA.r.own
    have hbn : (bs ++ ((bytesOf t).take k).map (fun b => (b, false))).length = bs.length + k := by rw [List.length_append, List.length_map, List.length_take, bytesOf_length]; omega
    by_cases hlt : k < t.size
    · have htk : (bytesOf t).take (k + 1) = (bytesOf t).take k ++ [((t[k]'hlt).toNat : Int)] := by rw [List.take_add_one, bt_get t k hlt]; rfl
      have hnx : bs ++ ((bytesOf t).take (k + 1)).map (fun b => (b, false)) = (bs ++ ((bytesOf t).take k).map (fun b => (b, false))) ++ [(((t[k]'hlt).toNat : Int), false)] := by rw [htk, List.map_append, List.append_assoc]; rfl
      have HNX := Lib.hid hnx
      have HBN := Lib.hid hbn
      have HK := Lib.hid hlt
      have hki : (k : Int) < (t.size : Int) := by omega
      have c1 : wr.cell? ⟨g, 1, none⟩ = some (.slice Av (bs ++ ((bytesOf t).take k).map (fun b => (b, false))).length cv) := cells_at hA.r.blk 1
      have hgl := hA.r.lt
      have HA := Lib.hid hA
      have HBR := Lib.hid (Nat.le_trans HBW.out hA.l.1.size)
      clear htk hnx hbn hk hA
      generalize bs ++ ((bytesOf t).take k).map (fun b => (b, false)) = bk at HA HNX HBN c1
      obtain ⟨n, hn⟩ : ∃ n, n = bk.length := ⟨_, rfl⟩
      rw [← hn] at c1 HBN HA
      have HNN := Lib.hid hn
      have HBL := Lib.hid (show (n + 1) * 2 ≤ 140737488355328 from by have := HBN.out; have := HSZ.out; have := HK.out; omega)
      have hc1 : wr.drew.cell? ⟨g, 1, none⟩ = some (.slice Av n cv) := c1
      have hc2 : (wr.alloc (.cells #[.int .u8 (((t[k]'hlt).toNat : Int)), .bool false] 110)).cell? ⟨g, 1, none⟩ = some (.slice Av n cv) := (World.cell?_of_block (heap_alloc_old wr _ hgl)).trans c1
      have HNE := Lib.hid (show some g ≠ (Value.slice Av n cv).ownBlock from by have := own_ne HA.out.r.own HA.out.r.blk (by decide); exact this)
      clear hn hgl
      go_wp2_with fail
      go_region_law (refine step_append_cells (w0 := wr.drew) (W := wr.drew) B (by rfl) _ _ 106 110 (.agg #[.int .u8 0, .bool false]) 2 2 rfl Try.underlying106 info110 rfl (by decide) (by decide) (.slice Av n cv) n (bcel bk) [.int .u8 (((t[k]'hlt).toNat : Int)), .bool false] rfl rfl rfl (by simp [Value.oneCell']) (by have := HA.out.r.own; rw [← HNN.out] at this; exact this) (Below.refl B _) HBR.out HBL.out ?_; intro v1 w4 hown hb4 hg4 hat; obtain ⟨A1, c2, rfl⟩ := own_slice2 hown; have hblk := (hg4.block g HA.out.r.lt HNE.out).trans HA.out.r.blk; have hf1 := fz_at hblk 1; have hg1_ := cells_at hblk 1; have HOW := Lib.hid hown; have HB4 := Lib.hid hb4; have HG4 := Lib.hid hg4; have HAT := Lib.hid hat; clear hown hb4 hg4 hat hblk)
      all_goals
        have HE := Lib.hid (app_end HA.out.drew HNN.out HBR.out HOW.out HB4.out HG4.out HAT.out rfl)
        clear HOW HB4 HG4 HAT hc1 hc2 hf1 hg1_ c1
        obtain ⟨w5, hw5⟩ : ∃ w5, w5 = w4.setCell ⟨g, 1, none⟩ (.slice A1 (n + 1) c2) := ⟨_, rfl⟩
        rw [← hw5] at HE ⊢
        clear hw5
        go_wp2_with fail
        go_roundw
        case rel => exact ⟨k + 1, _, HK.out, by go_num, by rw [HNX.out]; exact ⟨HE.out.r, HE.out.l, HE.out.at_⟩⟩
        case measure => have := HK.out; simp [intOf]; omega
    · obtain rfl : k = t.size := by omega
      have hall : (bytesOf t).take t.size = bytesOf t := List.take_of_length_le (by rw [bytesOf_length]; exact Nat.le_refl _)
      rw [hall] at hA
      have HA := Lib.hid hA
      clear hlt hk hA hall hbn
      go_wp2
      go_ret
      exact ⟨rfl, _, HA.out⟩
end Go.Proofs.Ytcoodlncjnekoaa.E
