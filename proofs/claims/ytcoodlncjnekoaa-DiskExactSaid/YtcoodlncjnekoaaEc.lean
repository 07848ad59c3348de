/- The document's disk: Cut, Bytes, Sync. Conditions: each theorem's own. -/
import Derived.Test.YtcoodlncjnekoaaEb
namespace Go.Proofs.Ytcoodlncjnekoaa.E
open Go.RowKit Go.Proofs.YtcoodlncjnekoaaW.PrintWords Go.Proofs.Ytcoodlncjnekoaa.D
set_option linter.unusedVariables false
set_option linter.unusedSimpArgs false
set_option maxRecDepth 100000 in
set_option maxHeartbeats 1000000 in
theorem rcut_calls {w : World} {B g : Nat} {v : Value} {room : Int} {l : List Int} {s : Nat} (h : Rk w B g v room (lay l s)) (keep : Int) (hs : s ≤ l.length) (hl : l.length ≤ 1048576) (hk0 : -9223372036854775808 ≤ keep ∧ keep ≤ 9223372036854775807) :
    Calls Try.prog 29 #[.pointer (some ⟨g, 0, none⟩), .int .i64 keep] w fun e w' => e = .returned (.string (strOfNums (l.take (s + keep.toNat)))) ∧ Below w.heap.size w w' := by
  obtain ⟨A, c, rfl⟩ := own_slice2 h.own
  have hlen : (lay l s).length = l.length := lay_len l s
  have HH := Lib.hid h
  have c1 := cells_at h.blk 1
  rw [hlen] at c1
  have c1' : w.cell? ⟨g, 1, none⟩ = some (.slice A l.length c) := c1
  have hli : (l.length : Int) ≤ 1048576 := by omega
  obtain ⟨n, hn⟩ : ∃ n, n = s + keep.toNat := ⟨_, rfl⟩
  have HS := Lib.hid hs
  have HL := Lib.hid hl
  have HK0 := Lib.hid hk0
  have HN := Lib.hid hn
  rw [← hn]
  have HLEN := Lib.hid hlen
  clear h c1 hs hl hk0 hn hlen
  go_enter Try.func29, Try.ntmps29
  go_wp2
  clear c1'
  go_loopw [1, 5, 6] (fun kv b i wr => ∃ (k : Nat) (kp : Int), k ≤ l.length ∧ i = .int .i64 (k : Nat) ∧ kv = .int .i64 kp ∧ Hid (kp = keep - ((min k n - s : Nat) : Int)) ∧ wr.ownsRow w.heap.size 5 1 b (l.take (min k n)).length (encs (Value.int .u8) (l.take (min k n))) ∧ Below w.heap.size w wr) (fun _ _ i _ => l.length - (intOf i).toNat)
  case atStart => exact ⟨0, keep, Nat.zero_le _, rfl, rfl, Lib.hid (by simp), by simp only [Nat.zero_min, List.take_zero]; exact own_nil _ _ _ _, Below.refl _ _⟩
  case round =>
    obtain ⟨k, kp, hk, rfl, rfl, HKP, hob, hb⟩ := hrel
    obtain ⟨Ab, cb, rfl⟩ := own_slice hob
    have hW := HH.out.below hb
    have c1 : wr.cell? ⟨g, 1, none⟩ = some (.slice A l.length c) := by have := cells_at hW.blk 1; rw [HLEN.out] at this; exact this
    have hOw : wr.ownsRow B 110 2 (.slice A l.length c) l.length (bcel (lay l s)) := by have := hW.own; rw [HLEN.out] at this; exact this
    have HOB := Lib.hid hob
    have HB := Lib.hid hb
    have htl : (l.take (min k n)).length = min k n := by rw [List.length_take]; omega
    obtain ⟨q, hq⟩ : ∃ q : Nat, q = min k n := ⟨_, rfl⟩
    by_cases hlt : k < l.length
    · obtain ⟨x, hx⟩ : ∃ x, l[k]? = some x := ⟨_, List.getElem?_eq_getElem hlt⟩
      obtain ⟨b, rfl, d0, d1, _⟩ := row2_cell hOw k x (decide (k < s)) (by rw [lay_get, hx]; rfl)
      have HTS := Lib.hid (take_step l k n x hx)
      have hki : (k : Int) < (l.length : Int) := by omega
      have HK := Lib.hid hlt
      have hsz : w.heap.size ≤ wr.heap.size := hb.size
      have HSZ := Lib.hid hsz
      have hql : (l.take (min k n)).length ≤ 1048576 := by have := HL.out; rw [htl]; omega
      have HQL := Lib.hid hql
      clear hlt hk hx hW hOw hob hb htl hsz hql hq
      generalize l.take (min k n) = bs at HOB HTS HQL ⊢
      have HBL := Lib.hid (show (bs.length + 1) * 1 ≤ 140737488355328 from by have := HQL.out; omega)
      by_cases hsf : k < s
      · have hd : decide (k < s) = true := decide_eq_true hsf
        have HF := Lib.hid hsf
        rw [hd] at d1
        clear hsf hd
        go_wp2_with (first | (at_builtin; (refine print_append_of (Value.int .u8) w.heap.size rfl _ _ 62 5 (.int .u8 0) 1 rfl Try.underlying62 info5 rfl (by decide) (.slice Ab bs.length cb) bs x rfl rfl rfl HOB.out HB.out HSZ.out HBL.out ?_); intro v1 w1 hown hb1 hg_ hat_; clear hg_ hat_; obtain ⟨A1, c2, rfl⟩ := own_slice hown; rw [show (bs ++ [x]).length = bs.length + 1 from by simp]; rw [show (bs ++ [x]).length = bs.length + 1 from by simp] at hown; have HOW := Lib.hid hown; have HB1 := Lib.hid hb1; clear hown hb1 c1 d0 d1))
        go_roundw
        case rel => exact ⟨k + 1, kp, HK.out, by go_num, rfl, Lib.hid (by have := HF.out; have := HN.out; have := HKP.out; omega), (by rw [HTS.out, if_pos (by have := HF.out; have := HN.out; omega)]; rw [show (bs ++ [x]).length = bs.length + 1 from by simp]; exact HOW.out), HB1.out⟩
        case measure => have := HK.out; simp [intOf]; omega
      · have hd : decide (k < s) = false := decide_eq_false hsf
        have HF := Lib.hid hsf
        rw [hd] at d1
        by_cases hkn : k < n
        · have hkp : 0 < kp := by have := HN.out; have := HKP.out; omega
          have hkp2 : kp ≤ 9223372036854775807 := by have := HK0.out; have := HKP.out; omega
          have HKN := Lib.hid hkn
          clear hsf hd hkn
          go_wp2_with (first | (at_builtin; (refine print_append_of (Value.int .u8) w.heap.size rfl _ _ 62 5 (.int .u8 0) 1 rfl Try.underlying62 info5 rfl (by decide) (.slice Ab bs.length cb) bs x rfl rfl rfl HOB.out HB.out HSZ.out HBL.out ?_); intro v1 w1 hown hb1 hg_ hat_; clear hg_ hat_; obtain ⟨A1, c2, rfl⟩ := own_slice hown; rw [show (bs ++ [x]).length = bs.length + 1 from by simp]; rw [show (bs ++ [x]).length = bs.length + 1 from by simp] at hown; have HOW := Lib.hid hown; have HB1 := Lib.hid hb1; clear hown hb1 c1 d0 d1))
          go_roundw
          case rel => exact ⟨k + 1, kp - 1, HK.out, by go_num, rfl, Lib.hid (by have := HF.out; have := HN.out; have := HKN.out; have := HKP.out; omega), (by rw [HTS.out, if_pos HKN.out]; rw [show (bs ++ [x]).length = bs.length + 1 from by simp]; exact HOW.out), HB1.out⟩
          case measure => have := HK.out; simp [intOf]; omega
        · have hkp : ¬ 0 < kp := by have := HN.out; have := HKP.out; omega
          have hkp2 : -9223372036854775808 ≤ kp := by have := HK0.out; have := HN.out; have := HKP.out; omega
          have HKN := Lib.hid hkn
          clear hsf hd hkn
          go_wp2_with fail
          go_roundw
          case rel => exact ⟨k + 1, kp, HK.out, by go_num, rfl, Lib.hid (by have := HKN.out; have := HKP.out; omega), (by rw [HTS.out, if_neg HKN.out, List.append_nil]; exact HOB.out), HB.out⟩
          case measure => have := HK.out; simp [intOf]; omega
    · obtain rfl : k = l.length := by omega
      have he : l.take (min l.length n) = l.take n := by
        by_cases h1 : l.length ≤ n
        · rw [Nat.min_eq_left h1, List.take_length, List.take_of_length_le h1]
        · rw [Nat.min_eq_right (by omega)]
      rw [he] at HOB ⊢
      have hcv : (convert 62 9 (.slice Ab (l.take n).length cb)).run Try.prog wr = .ok (.string (strOfNums (l.take n))) wr := own_string Try.underlying62 Try.underlying5 Try.underlying9 HOB.out
      generalize hbn : (l.take n).length = m at hcv ⊢
      obtain ⟨bs, hbs⟩ : ∃ bs, bs = l.take n := ⟨_, rfl⟩
      rw [← hbs] at hcv
      have HBS := Lib.hid hbs
      clear hlt hk he hW hOw hob hb htl hq hbn hbs
      go_wp2
      go_ret
      exact ⟨by rw [← HBS.out]; rfl, HB.out⟩
theorem rbytes_calls {w : World} {B g : Nat} {v : Value} {room : Int} {l : List Int} {s : Nat} (h : Rk w B g v room (lay l s)) (hs : s ≤ l.length) (hl : l.length ≤ 1048576) :
    Calls Try.prog 25 #[.pointer (some ⟨g, 0, none⟩)] w fun e w' => e = .returned (.string (strOfNums l)) ∧ Below w.heap.size w w' := by
  have HC := Lib.hid (rcut_calls h (l.length : Int) hs hl (by omega))
  obtain ⟨A, c, rfl⟩ := own_slice2 h.own
  have c1 := cells_at h.blk 1
  rw [lay_len] at c1
  have c1' : w.cell? ⟨g, 1, none⟩ = some (.slice A l.length c) := c1
  have ht : l.take (s + ((l.length : Int)).toNat) = l := List.take_of_length_le (by omega)
  rw [ht] at HC
  clear h c1 ht hs hl
  go_enter Try.func25, Try.ntmps25
  go_wp2_with (first | (go_at_call 29; refine HC.out.mono ?_; rintro e w2 ⟨rfl, hb⟩; have HB := Lib.hid hb; clear hb))
  go_ret
  exact ⟨rfl, HB.out⟩
set_option maxRecDepth 100000 in
theorem rsync_calls {w : World} {B g : Nat} {v : Value} {room : Int} {l : List Int} {s : Nat} (h : Rk w B g v room (lay l s)) (hs : s ≤ l.length) (hl : l.length ≤ 1048576) :
    Calls Try.prog 57 #[.pointer (some ⟨g, 0, none⟩)] w fun e w' => e = .returned (.tuple #[]) ∧ Rk w' B g v room (lay l l.length) ∧ D.Left w w' B g v := by
  obtain ⟨A, c, rfl⟩ := own_slice2 h.own
  rw [lay_len] at h ⊢
  have HH := Lib.hid h
  have hli : (l.length : Int) ≤ 1048576 := by omega
  clear h hs hl
  go_enter Try.func57, Try.ntmps57
  go_wp2
  go_loopw [2] (fun i wr => ∃ (k : Nat), k ≤ l.length ∧ i = .int .i64 (k : Nat) ∧ Rk wr B g (.slice A l.length c) room (mix l s k) ∧ D.Left w wr B g (.slice A l.length c)) (fun i _ => l.length - (intOf i).toNat)
  case atStart => exact ⟨0, Nat.zero_le _, rfl, by rw [mix_zero]; exact HH.out, D.Left.refl _ _ _ _⟩
  case round =>
    obtain ⟨k, hk, rfl, hR, hL⟩ := hrel
    have c1 : wr.cell? ⟨g, 1, none⟩ = some (.slice A l.length c) := cells_at hR.blk 1
    have hO : wr.ownsRow B 110 2 (.slice A l.length c) l.length (bcel (mix l s k)) := by have := hR.own; rwa [mix_len] at this
    have HR := Lib.hid hR
    have HL := Lib.hid hL
    by_cases hlt : k < l.length
    · obtain ⟨x, hx⟩ : ∃ x, l[k]? = some x := ⟨_, List.getElem?_eq_getElem hlt⟩
      have hmk : (mix l s k)[k]? = some (x, decide (k < s)) := by
        unfold mix
        rw [List.getElem?_append_right (by rw [List.length_map, List.length_take]; omega), List.length_map, List.length_take, List.getElem?_drop, lay_get]
        rw [show k + (k - min k l.length) = k from by omega, hx]
        rfl
      obtain ⟨b, rfl, _, d1, f1⟩ := row2_cell hO k x (decide (k < s)) hmk
      have hki : (k : Int) < (l.length : Int) := by omega
      have HK := Lib.hid hlt
      have HX := Lib.hid hx
      have HM := Lib.hid hmk
      have HO := Lib.hid hO
      clear hlt hk hx hmk hO hR hL
      go_wp2
      go_roundw
      case rel =>
        have hst := HO.out.stored (2 * k + 1) (.bool true)
        rw [bcel_set _ _ _ _ HM.out, ← mix_set l s k x HX.out, show 2 * k + 1 = k * 2 + 1 from by omega] at hst
        have hgb : g ≠ b := fun e => by subst e; exact own_ne HO.out HR.out.blk (by decide) (by simp [Value.ownBlock])
        have hbB : B ≤ b := own_base HO.out b (by simp [Value.ownBlock])
        refine ⟨k + 1, HK.out, by go_num, ⟨HR.out.base, (Below.heap_setCell _ ⟨b, k * 2 + 1, none⟩ _ g hgb).trans HR.out.blk, by rw [mix_len]; exact hst.1⟩, HL.out.1.setCell (p := ⟨b, k * 2 + 1, none⟩) hbB _, fun i hi hn => ?_⟩
        exact (Below.heap_setCell _ ⟨b, k * 2 + 1, none⟩ _ i (fun e => hn (.inr (by rw [e]; simp [Value.ownBlock])))).trans (HL.out.2 i hi hn)
      case measure => have := HK.out; simp [intOf]; omega
    · obtain rfl : k = l.length := by omega
      have hall : mix l s l.length = lay l l.length := mix_all l s
      have hR2 := HR.out
      rw [hall] at hR2
      have HR2 := Lib.hid hR2
      clear hlt hk hO hR hL hall hR2
      go_wp2
      go_end0
      exact ⟨rfl, HR2.out, HL.out⟩
end Go.Proofs.Ytcoodlncjnekoaa.E
