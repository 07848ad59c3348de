/- JournalRead: the walk. Condition: the texts' sizes are at most 1048576. -/
import Derived.Test.YtcoodlncjnekoaaRw
import Derived.Test.YtcoodlncjnekoaaOpens
namespace Go.Proofs.Ytcoodlncjnekoaa.F
open Go.RowKit Go.Proofs.YtcoodlncjnekoaaW.PrintWords Go.Proofs.JournalPlain
set_option linter.unusedVariables false
set_option maxHeartbeats 2000000 in
set_option maxRecDepth 100000 in
theorem jread_walk (s t : ByteArray) (w : World) (hs : s.size ≤ 1048576) (ht : t.size ≤ 1048576) :
    Calls Try.prog 4 #[.string s, .string t] w fun e w' => e = .returned (.bool true) ∧ Below w.heap.size w w' := by
  obtain ⟨ea, na, ra, ja, la⟩ := reads_two s hs
  obtain ⟨eb, nb, rb, jb, lb⟩ := reads_two t ht
  have CRA := Lib.hid (fun W => gatehouseref22_Read.calls 4000000 s ea na W (ra _ (Nat.le_refl _)))
  have CRB := Lib.hid (fun W => gatehouseref22_Read.calls 4000000 t eb nb W (rb _ (Nat.le_refl _)))
  have CJA := Lib.hid (fun W => journal_Read.calls 4000000 s ea na W (ja _ (Nat.le_refl _)))
  have CJB := Lib.hid (fun W => journal_Read.calls 4000000 t eb nb W (jb _ (Nat.le_refl _)))
  have HLA := Lib.hid la
  have HLB := Lib.hid lb
  have qa : (na != na) = false := by simp
  have qb : (nb != nb) = false := by simp
  have qa2 : (na == na) = true := beq_self_eq_true _
  clear ra ja la rb jb lb hs ht
  go_enter Try.func4, Try.ntmps4
  go_wp2_with fail
  refine (CRA.out _).mono ?_
  rintro e w1 ⟨u, rfl, hr1, hb1⟩
  obtain ⟨Aa, ca, rfl⟩ := Kd.R_slice hr1
  have HR1 := Lib.hid hr1
  have HB1 := Lib.hid hb1
  clear hr1 hb1
  go_wp2_with fail
  refine (CRB.out _).mono ?_
  rintro e w2 ⟨u, rfl, hr2, hb2⟩
  obtain ⟨Ab, cb, rfl⟩ := Kd.R_slice hr2
  obtain ⟨xa, hxa⟩ : ∃ xa : Sv, xa = (Aa, ea.length, ca) := ⟨_, rfl⟩
  obtain ⟨xb, hxb⟩ : ∃ xb : Sv, xb = (Ab, eb.length, cb) := ⟨_, rfl⟩
  have HXA := Lib.hid hxa
  have HXB := Lib.hid hxb
  have HJ0 := Lib.hid (show Jr w w2 w2.heap.size w.heap.size xa xb ea eb (.slice none 0 0) (.slice none 0 0) [] 0 by
    refine Jr.start ?_ ?_ (below_step HB1.out hb2) (Nat.le_trans HB1.out.size hb2.size)
    · rw [hxa]; exact Rt.of (Kd.R_below HR1.out hb2)
    · rw [hxb]; exact Rt.of (Kd.R_lower hr2 HB1.out.size))
  obtain ⟨S0, hS0⟩ : ∃ S0, S0 = w2.heap.size := ⟨_, rfl⟩
  rw [← hS0] at HJ0
  clear hr2 hb2 hS0 hxa hxb HR1 HB1
  go_wp2_with fail
  go_loopw [9, 10, 11] (fun v9 v10 v wr => ∃ (n : Nat) (gs : List Sv), v = .int .i64 (n : Nat) ∧ n ≤ 6 ∧ Jr w wr S0 w.heap.size xa xb ea eb v9 v10 gs n) (fun _ _ v _ => 6 - (intOf v).toNat)
  case atStart => exact ⟨0, [], rfl, by omega, HJ0.out⟩
  case round =>
    obtain ⟨n, gs, rfl, hn, hj⟩ := hrel
    rename World => wo
    have HJ := Lib.hid hj
    by_cases hlt : n < 6
    · have hix : (n : Int) < 6 := by omega
      clear hj hn
      by_cases h2 : n = 2
      · subst h2
        have hxf : Xf ea eb 2 = eb := rfl
        have hsel : sel xa xb 2 = (Ab, eb.length, cb) := by rw [← HXB.out]; rfl
        clear hlt hix
        go_wp2_with fail
        refine (CJB.out _).mono ?_
        rintro e w3 ⟨u, rfl, hr, hb⟩
        obtain ⟨Ax, cx, rfl⟩ := Kd.R_slice hr
        have hB : w.heap.size ≤ wo.heap.size := Nat.le_trans HJ.out.bs HJ.out.s0
        have hrt : Rt w3 w.heap.size (encS (Ax, eb.length, cx)) eb := Rt.of (Kd.R_lower hr hB)
        have hj3 := HJ.out.below hb
        obtain ⟨v9', w4, run4, r4, b4, g4, t4⟩ := appS w3 w.heap.size u9 gs (Ax, eb.length, cx) hj3.G (Nat.le_trans hj3.bs hj3.s0) (by rw [hj3.gl]; omega)
        have W4 : Rs w4 w.heap.size u10 (wsel xa xb 2) := hj3.W.keep (fun k hk hs => g4.block k hs (fun e => hj3.nn k e.symm hk))
        obtain ⟨v10', w5, run5, r5, b5, g5, t5⟩ := appS w4 w.heap.size u10 (wsel xa xb 2) (Ab, eb.length, cb) W4 (Nat.le_trans (Nat.le_trans hj3.bs hj3.s0) b4.size) (by rw [wsel_len]; omega)
        have HNX := Lib.hid (HJ.out.next hb (x := (Ax, eb.length, cx)) (by rw [hxf]; exact hrt) (fun k hk => Kd.R_base hr k hk) r4 b4 g4 t4 (show Rs w5 w.heap.size v10' (wsel xa xb 2 ++ [sel xa xb 2]) by rw [hsel]; exact r5) b5 g5 t5)
        have R4 := Lib.hid run4
        have R5 := Lib.hid run5
        clear hr hb hB hrt hj3 run4 r4 b4 g4 t4 W4 run5 r5 b5 g5 t5 hxf hsel
        go_wp2_with (first | ((with_reducible refine gate_builtin (b := .append) (xs := #[.tmp 54, .tmp 56]) rfl ?_); at_builtin; refine wpList_append_run rfl (.tmp 54) (.tmp 56) 31 rfl rfl rfl R4.out ?_) | ((with_reducible refine gate_builtin (b := .append) (xs := #[.tmp 58, .tmp 60]) rfl ?_); at_builtin; refine wpList_append_run rfl (.tmp 58) (.tmp 60) 31 rfl rfl rfl R5.out ?_))
        go_roundw
        case rel => exact ⟨2 + 1, gs ++ [(Ax, eb.length, cx)], by go_num, by decide, HNX.out⟩
        case measure => simp [intOf]
      · by_cases h3 : n = 3
        · subst h3
          have hxf : Xf ea eb 3 = eb := rfl
          have hsel : sel xa xb 3 = (Ab, eb.length, cb) := by rw [← HXB.out]; rfl
          clear hlt hix h2
          go_wp2_with fail
          refine (CJB.out _).mono ?_
          rintro e w3 ⟨u, rfl, hr, hb⟩
          obtain ⟨Ax, cx, rfl⟩ := Kd.R_slice hr
          have hB : w.heap.size ≤ wo.heap.size := Nat.le_trans HJ.out.bs HJ.out.s0
          have hrt : Rt w3 w.heap.size (encS (Ax, eb.length, cx)) eb := Rt.of (Kd.R_lower hr hB)
          have hj3 := HJ.out.below hb
          obtain ⟨v9', w4, run4, r4, b4, g4, t4⟩ := appS w3 w.heap.size u9 gs (Ax, eb.length, cx) hj3.G (Nat.le_trans hj3.bs hj3.s0) (by rw [hj3.gl]; omega)
          have W4 : Rs w4 w.heap.size u10 (wsel xa xb 3) := hj3.W.keep (fun k hk hs => g4.block k hs (fun e => hj3.nn k e.symm hk))
          obtain ⟨v10', w5, run5, r5, b5, g5, t5⟩ := appS w4 w.heap.size u10 (wsel xa xb 3) (Ab, eb.length, cb) W4 (Nat.le_trans (Nat.le_trans hj3.bs hj3.s0) b4.size) (by rw [wsel_len]; omega)
          have HNX := Lib.hid (HJ.out.next hb (x := (Ax, eb.length, cx)) (by rw [hxf]; exact hrt) (fun k hk => Kd.R_base hr k hk) r4 b4 g4 t4 (show Rs w5 w.heap.size v10' (wsel xa xb 3 ++ [sel xa xb 3]) by rw [hsel]; exact r5) b5 g5 t5)
          have R4 := Lib.hid run4
          have R5 := Lib.hid run5
          clear hr hb hB hrt hj3 run4 r4 b4 g4 t4 W4 run5 r5 b5 g5 t5 hxf hsel
          go_wp2_with (first | ((with_reducible refine gate_builtin (b := .append) (xs := #[.tmp 54, .tmp 56]) rfl ?_); at_builtin; refine wpList_append_run rfl (.tmp 54) (.tmp 56) 31 rfl rfl rfl R4.out ?_) | ((with_reducible refine gate_builtin (b := .append) (xs := #[.tmp 58, .tmp 60]) rfl ?_); at_builtin; refine wpList_append_run rfl (.tmp 58) (.tmp 60) 31 rfl rfl rfl R5.out ?_))
          go_roundw
          case rel => exact ⟨3 + 1, gs ++ [(Ax, eb.length, cx)], by go_num, by decide, HNX.out⟩
          case measure => simp [intOf]
        · have hxf : Xf ea eb n = ea := by unfold Xf; rw [if_neg (by omega)]
          have hsel : sel xa xb n = (Aa, ea.length, ca) := by unfold sel; rw [if_neg (by omega)]; exact HXA.out
          have k2 : ((n : Int) == 2) = false := beq_eq_false_iff_ne.2 (by omega)
          have k3 : ((n : Int) == 3) = false := beq_eq_false_iff_ne.2 (by omega)
          have HN := Lib.hid hlt
          clear h2 h3
          go_wp2_with fail
          refine (CJA.out _).mono ?_
          rintro e w3 ⟨u, rfl, hr, hb⟩
          obtain ⟨Ax, cx, rfl⟩ := Kd.R_slice hr
          have hB : w.heap.size ≤ wo.heap.size := Nat.le_trans HJ.out.bs HJ.out.s0
          have hrt : Rt w3 w.heap.size (encS (Ax, ea.length, cx)) ea := Rt.of (Kd.R_lower hr hB)
          have hj3 := HJ.out.below hb
          obtain ⟨v9', w4, run4, r4, b4, g4, t4⟩ := appS w3 w.heap.size u9 gs (Ax, ea.length, cx) hj3.G (Nat.le_trans hj3.bs hj3.s0) (by rw [hj3.gl]; omega)
          have W4 : Rs w4 w.heap.size u10 (wsel xa xb n) := hj3.W.keep (fun k hk hs => g4.block k hs (fun e => hj3.nn k e.symm hk))
          obtain ⟨v10', w5, run5, r5, b5, g5, t5⟩ := appS w4 w.heap.size u10 (wsel xa xb n) (Aa, ea.length, ca) W4 (Nat.le_trans (Nat.le_trans hj3.bs hj3.s0) b4.size) (by rw [wsel_len]; omega)
          have HNX := Lib.hid (HJ.out.next hb (x := (Ax, ea.length, cx)) (by rw [hxf]; exact hrt) (fun k hk => Kd.R_base hr k hk) r4 b4 g4 t4 (show Rs w5 w.heap.size v10' (wsel xa xb n ++ [sel xa xb n]) by rw [hsel]; exact r5) b5 g5 t5)
          have R4 := Lib.hid run4
          have R5 := Lib.hid run5
          clear hr hb hB hrt hj3 run4 r4 b4 g4 t4 W4 run5 r5 b5 g5 t5 hxf hsel
          go_wp2_with (first | ((with_reducible refine gate_builtin (b := .append) (xs := #[.tmp 54, .tmp 56]) rfl ?_); at_builtin; refine wpList_append_run rfl (.tmp 54) (.tmp 56) 31 rfl rfl rfl R4.out ?_) | ((with_reducible refine gate_builtin (b := .append) (xs := #[.tmp 58, .tmp 60]) rfl ?_); at_builtin; refine wpList_append_run rfl (.tmp 58) (.tmp 60) 31 rfl rfl rfl R5.out ?_))
          go_roundw
          case rel => exact ⟨n + 1, gs ++ [(Ax, ea.length, cx)], by go_num, HN.out, HNX.out⟩
          case measure => have := HN.out; simp [intOf]; omega
    · obtain rfl : n = 6 := by omega
      obtain ⟨hd, hsp⟩ := hj.sp
      have CAP := Lib.hid (apart_calls _ _ _ _ _ _ _ hd hsp (fun i => by unfold Xf; split; exact HLB.out; exact HLA.out))
      have HBE := Lib.hid hj.be
      clear hj hlt hn hd hsp
      go_wp2_with fail
      refine CAP.out.mono ?_
      rintro e w6 ⟨rfl, hb6, hw6⟩
      have HA6 := Lib.hid (show Rt w6 w.heap.size (.slice Aa ea.length ca) ea by have h := hw6 0 (by decide); rw [show (wsel xa xb 6).getD 0 dS = xa from rfl, HXA.out] at h; exact h)
      have HB6 := Lib.hid (HBE.out.trans hb6)
      clear hb6 hw6
      go_wp2_with fail
      refine (CJA.out _).mono ?_
      rintro e w7 ⟨u, rfl, hr7, hb7⟩
      obtain ⟨Ax, cx, rfl⟩ := Kd.R_slice hr7
      have HA7 := Lib.hid (HA6.out.below hb7)
      have HR7 := Lib.hid hr7
      have HB7 := Lib.hid (below_step HB6.out hb7)
      clear hr7 hb7
      go_wp2_with fail
      refine (gatehouseref22_Same.calls 4000000 _ _ ea _ _ ea true _ (Kd.R_reads' HR7.out).2.2 (Kd.R_reads' HR7.out).2.1 (Kd.R_reads' HA7.out).2.2 (Kd.R_reads' HA7.out).2.1 (Same_refl _ (by have := HLA.out; omega) _ (by have := HLA.out; omega))).mono ?_
      rintro e w8 ⟨rfl, hd8⟩
      have HB8 := Lib.hid (below_step HB7.out hd8.below)
      clear hd8
      go_wp2_with fail
      go_ret
      exact ⟨rfl, HB8.out⟩
theorem JournalRead.walk (x0 : ByteArray) (v0 : Value) (x1 : ByteArray) (v1 : Value) (w : World) (hk0 : Kd.K Kd.string w x0 [v0]) (hg0 : x0.size ≤ 140737488351232) (hk1 : Kd.K Kd.string w x1 [v1]) (hg1 : x1.size ≤ 140737488351232) (hb : (x0.size + 1) + (x1.size + 1) ≤ 1048576) :
    Calls Try.prog 4 #[v0, v1] w fun e w' => e = .returned (.bool true) ∧ Below w.heap.size w w' := by
  have h0 : [v0] = [Value.string x0] := hk0
  injection h0 with h0
  subst h0
  have h1 : [v1] = [Value.string x1] := hk1
  injection h1 with h1
  subst h1
  exact jread_walk x0 x1 w (by omega) (by omega)
end Go.Proofs.Ytcoodlncjnekoaa.F
