/- DiskExact: the walk. Conditions: the arguments read as they must. -/
import Derived.Test.YtcoodlncjnekoaaEk
namespace Go.Proofs.Ytcoodlncjnekoaa.E
open Go.RowKit Go.Proofs.YtcoodlncjnekoaaW.Raw Go.Proofs.YtcoodlncjnekoaaW.PrintWords Go.Proofs.Ytcoodlncjnekoaa.D Go.Proofs.Ytcoodlncjnekoaa.G
set_option linter.unusedVariables false
set_option linter.unusedSimpArgs false
theorem info42 : (Try.prog.info? 42).map (fun i => (i.zero, i.size, i.bytes)) = some (some (.agg #[.pointer none, .pointer none]), 2, 16) := by kernel_rfl
/-- What the last region knows of a pair in a box. -/
structure O3 (B : Nat) (f : Nat → Prop) (W w1 : World) (g gr b2 : Nat) (v vr : Value) (room : Int) (T : ByteArray) (s : Nat) : Prop where
  d : Dk w1 B g v room (s : Int) T
  r : Rk w1 B gr vr room (lay (bytesOf T) s)
  x : w1.heap[b2]? = some (.cells #[.pointer (some ⟨g, 0, none⟩), .pointer (some ⟨gr, 0, none⟩)] 42 (0, 0))
  k : Kept W w1 f
  b : Below B W w1
  sz : B ≤ w1.heap.size
section
variable {B : Nat} {f : Nat → Prop} {W w1 w2 : World} {g gr b2 : Nat} {v vr : Value} {room : Int} {T : ByteArray} {s : Nat}
theorem O3.left (h : O3 B f W w1 g gr b2 v vr room T s) (hf : ∀ k, foot g v k → f k) (hd : Dk w2 B g v room (s : Int) T) (hl : D.Left w1 w2 B g v) : O3 B f W w2 g gr b2 v vr room T s :=
  ⟨hd, rk_after_dk h.d h.r hl, (hl.keep h.d h.x (by decide) (by decide)), h.k.then_ (kept_left hl hf) (fun _ h => .inl h), h.b.trans hl.1, Nat.le_trans h.sz hl.1.size⟩
theorem O3.below (h : O3 B f W w1 g gr b2 v vr room T s) (hb : Below w1.heap.size w1 w2) : O3 B f W w2 g gr b2 v vr room T s :=
  ⟨h.d.below hb, h.r.below hb, (hb.block _ (Array.getElem?_eq_some_iff.1 h.x).1).trans h.x, h.k.then_ (kept_below hb) (fun _ h => .inl h), h.b.trans (hb.mono h.sz), Nat.le_trans h.sz hb.size⟩
theorem O3.c0 (h : O3 B f W w1 g gr b2 v vr room T s) : w1.cell? ⟨b2, 0, none⟩ = some (.pointer (some ⟨g, 0, none⟩)) := cells_at h.x 0
theorem O3.c1 (h : O3 B f W w1 g gr b2 v vr room T s) : w1.cell? ⟨b2, 1, none⟩ = some (.pointer (some ⟨gr, 0, none⟩)) := cells_at h.x 1
end
theorem O3.q {B : Nat} {f : Nat → Prop} {W w1 : World} {g gr b2 : Nat} {v vr : Value} {room : Int} {T : ByteArray} {s : Nat} (h : O3 B f W w1 g gr b2 v vr room T s) (hfv : ∀ k, foot g v k → f k) (hfr : ∀ k, foot gr vr k → f k) (h3 : s ≤ T.size) (h4 : (T.size : Int) ≤ room) (h5 : 0 ≤ room) (h6 : room ≤ 1048576) : OneQ B f W g gr w1 :=
  OneQ.mk h.k h.b (Kept.refl _ _) (Below.refl _ _) hfv hfr h.d h.r h3 h4 h5 h6 (.inl rfl) (.inl rfl)
theorem O3.start {B : Nat} {f : Nat → Prop} {W w1 : World} {g gr b2 : Nat} {v vr : Value} {room : Int} {T : ByteArray} {s : Nat} (hd : Dk W B g v room (s : Int) T) (hr : Rk W B gr vr room (lay (bytesOf T) s)) (hb : Below W.heap.size W w1) (hx : w1.heap[b2]? = some (.cells #[.pointer (some ⟨g, 0, none⟩), .pointer (some ⟨gr, 0, none⟩)] 42 (0, 0))) (hB : B ≤ W.heap.size) : O3 B f W w1 g gr b2 v vr room T s :=
  ⟨hd.below hb, hr.below hb, hx, kept_below hb, hb.mono hB, Nat.le_trans hB hb.size⟩
theorem O3.drew {B : Nat} {f : Nat → Prop} {W w1 : World} {g gr b2 : Nat} {v vr : Value} {room : Int} {T : ByteArray} {s : Nat} (h : O3 B f W w1 g gr b2 v vr room T s) : O3 B f W w1.drew g gr b2 v vr room T s :=
  ⟨h.d.move (fun _ _ _ => rfl), h.r.move (fun _ _ _ => rfl), h.x, h.k, below_drew h.b, h.sz⟩
/-- The element that a script reads at k, in a later world. -/
theorem el50 {w W : World} {A : Option Addr} {n : Nat} {xs : List S50} (h : Kd.C k50 w A n xs) (hn : n = xs.length) (k : Nat) (hk : k < xs.length) (hb : Below w.heap.size w W) : ∃ (ad : Addr) (kd dk nn : Int) (tx : ByteArray), A = some ad ∧ (∃ o ∈ xs, o.f0 = kd ∧ o.f1 = dk ∧ o.f2 = tx ∧ o.f3 = nn) ∧
    ∀ W, Below w.heap.size w W → W.cell? (ad.add (k * 4)) = some (.int .i64 kd) ∧ W.cell? ⟨(ad.add (k * 4)).block, (ad.add (k * 4)).off + 1, none⟩ = some (.int .i64 dk) ∧ W.cell? ⟨(ad.add (k * 4)).block, (ad.add (k * 4)).off + 2, none⟩ = some (.string tx) ∧ W.cell? ⟨(ad.add (k * 4)).block, (ad.add (k * 4)).off + 3, none⟩ = some (.int .i64 nn) := by
  subst hn
  obtain ⟨ad, rfl, e0, e1, e2, e3⟩ := at_T50 h (k : Int) (by omega) (by omega)
  have hrd : rd_T50 xs (k : Int) = xs[k] := by unfold rd_T50; simp [List.getD_eq_getElem?_getD, hk]
  rw [hrd] at e0 e1 e2 e3
  simp only [Int.toNat_natCast] at e0 e1 e2 e3
  exact ⟨ad, _, _, _, _, rfl, ⟨xs[k], List.getElem_mem hk, rfl, rfl, rfl, rfl⟩, fun W hW => ⟨(hW.cell (World.block_lt_of_cell? w _ e0)).trans e0, (hW.cell (World.block_lt_of_cell? w _ e1)).trans e1, (hW.cell (World.block_lt_of_cell? w _ e2)).trans e2, (hW.cell (World.block_lt_of_cell? w _ e3)).trans e3⟩⟩
theorem el46 {w : World} {A : Option Addr} {n : Nat} {xs : List S46} (h : Kd.C k46 w A n xs) (hn : n = xs.length) (k : Nat) (hk : k < xs.length) : ∃ (ad : Addr) (rm : Int) (fr : Bool) (tx : ByteArray), A = some ad ∧ (∃ o ∈ xs, o.f2 = tx) ∧
    ∀ W, Below w.heap.size w W → W.cell? (ad.add (k * 3)) = some (.int .i64 rm) ∧ W.cell? ⟨(ad.add (k * 3)).block, (ad.add (k * 3)).off + 1, none⟩ = some (.bool fr) ∧ W.cell? ⟨(ad.add (k * 3)).block, (ad.add (k * 3)).off + 2, none⟩ = some (.string tx) := by
  subst hn
  obtain ⟨ad, rfl, e0, e1, e2⟩ := at_T46 h (k : Int) (by omega) (by omega)
  have hrd : rd_T46 xs (k : Int) = xs[k] := by unfold rd_T46; simp [List.getD_eq_getElem?_getD, hk]
  rw [hrd] at e0 e1 e2
  simp only [Int.toNat_natCast] at e0 e1 e2
  exact ⟨ad, _, _, _, rfl, ⟨xs[k], List.getElem_mem hk, rfl⟩, fun W hW => ⟨(hW.cell (World.block_lt_of_cell? w _ e0)).trans e0, (hW.cell (World.block_lt_of_cell? w _ e1)).trans e1, (hW.cell (World.block_lt_of_cell? w _ e2)).trans e2⟩⟩
set_option maxHeartbeats 4000000 in
set_option maxRecDepth 100000 in
theorem exact_walk (x0 : List S46) (x1 : List S50) (A0 A1 : Option Addr) (c0 c1 : Nat) (w : World) (hr0 : Kd.C k46 w A0 x0.length x0) (hr1 : Kd.C k50 w A1 x1.length x1) (hl0 : x0.length * 32 ≤ 140737488351232) (hl1 : x1.length * 40 ≤ 140737488351232)
    (hT : ∀ x ∈ x0, x.f2.size ≤ 140737488351232) (hX : ∀ x ∈ x1, x.f2.size ≤ 140737488351232 ∧ (-9223372036854775808 ≤ x.f1 ∧ x.f1 ≤ 9223372036854775807) ∧ (-9223372036854775808 ≤ x.f3 ∧ x.f3 ≤ 9223372036854775807)) :
    Calls Try.prog 5 #[.slice A0 x0.length c0, .slice A1 x1.length c1] w fun e w' => e = .returned (.bool true) ∧ Below w.heap.size w w' := by
  have HR0 := Lib.hid hr0
  have HR1 := Lib.hid hr1
  have HT := Lib.hid hT
  have HX := Lib.hid hX
  have hL0 : (x0.length : Int) ≤ 4398046510976 := by omega
  have hL1 : (x1.length : Int) ≤ 4398046510976 := by omega
  have mixed := mixed
  clear hr0 hr1 hT hX hl0 hl1
  go_enter Try.func5, Try.ntmps5
  go_wp2_with fail
  refine (fixed_calls _).mono ?_
  rintro e w1 ⟨rfl, hb1⟩
  have HB1 := Lib.hid hb1
  clear hb1
  go_wp2_with fail
  go_loopw [6, 7] (fun al i wr => ∃ (k : Nat) (es : List (Nat × Nat)), k ≤ x0.length ∧ i = .int .i64 (k : Nat) ∧ es.length ≤ k ∧ Ps w.heap.size wr al es ∧ Below w.heap.size w wr) (fun _ i _ => x0.length - (intOf i).toNat)
  case atStart => exact ⟨0, [], Nat.zero_le _, rfl, Nat.le_refl _, Ps.nil _ _, HB1.out⟩
  case round =>
    obtain ⟨k, es, hk, rfl, hek, hP, hb⟩ := hrel
    obtain ⟨Av, cv, rfl⟩ := own_slice hP.1
    have HP := Lib.hid hP
    have HB := Lib.hid hb
    have HSZ := Lib.hid hb.size
    clear hP HB1
    by_cases hlt : k < x0.length
    · obtain ⟨ad, rm, fr, tx, rfl, ⟨o, ho, hot⟩, hel⟩ := el46 HR0.out rfl k hlt
      obtain ⟨e0, e1, e2⟩ := hel wr hb
      have HTX := Lib.hid (show tx.size ≤ 140737488351232 from by rw [← hot]; exact HT.out o ho)
      have HK := Lib.hid hlt
      have HEK := Lib.hid hek
      have hki : (k : Int) < (x0.length : Int) := by omega
      have HBL := Lib.hid (show (es.length + 1) * 16 ≤ 140737488355328 from by omega)
      clear ho hot hel hlt hk hek hb
      go_wp2_with fail
      refine (made_calls _ rm fr tx HTX.out).mono ?_
      clear e0 e1 e2
      rintro e w2 (⟨rfl, hb2⟩ | ⟨g, gr, f, rfl, hb2, hp, hf⟩)
      · have HB2 := Lib.hid hb2
        clear hb2
        go_wp2_with (first | ((with_reducible refine gate_dst (N := 8) rfl ?_); refine box_event rfl (N := 8) rfl (cs := #[.pointer none, .pointer none]) (t := 42) ?hr ?_; (case hr => first | (go_simp; done) | (go_simp; rfl)); intro b8 hg_ w3 hb8 hB3; have HL8 := Lib.hid (show w2.heap.size ≤ b8 from by rw [hg_]; exact Nat.le_refl _); clear hg_; have HB3 := Lib.hid hB3; have K8 := Lib.hid hb8; clear hb8 hB3) | ((with_reducible refine gate_ (.store 42 (.tmp 8) (.tmp 26)) rfl ?_); refine bstore (t := 42) (p := 8) (v := .tmp 26) rfl rfl rfl b8 _ #[.pointer none, .pointer none] (.agg #[.pointer none, .pointer none]) rfl rfl rfl K8.out (by kernel_rfl) rfl (by simp [Value.oneCell']) ?_; intro w4 hb4 hs4 hz4 hB4; have K4 := Lib.hid hb4; have HB4 := Lib.hid (HB2.out.trans ((HB3.out.trans (hB4 _ HL8.out)).mono HB2.out.size)); have d1 : w4.cell? ⟨b8, 1, none⟩ = some (.pointer none) := cells_at hb4 1; clear hb4 hs4 hz4 hB4))
        go_roundw
        case rel => exact ⟨k + 1, es, HK.out, by go_num, Nat.le_succ_of_le HEK.out, HP.out.below HB4.out, HB.out.trans (HB4.out.mono HSZ.out)⟩
        case measure => have := HK.out; simp [intOf]; omega
      · have HB2 := Lib.hid hb2
        have HPR := Lib.hid hp
        have HF := Lib.hid hf
        clear hb2 hp hf
        go_wp2_with (first | ((with_reducible refine gate_dst (N := 8) rfl ?_); refine box_event rfl (N := 8) rfl (cs := #[.pointer none, .pointer none]) (t := 42) ?hr ?_; (case hr => first | (go_simp; done) | (go_simp; rfl)); intro b8 hg_ w3 hb8 hB3; have HL8 := Lib.hid (show w2.heap.size ≤ b8 from by rw [hg_]; exact Nat.le_refl _); clear hg_; have HB3 := Lib.hid hB3; have K8 := Lib.hid hb8; clear hb8 hB3) | ((with_reducible refine gate_ (.store 42 (.tmp 8) (.tmp 26)) rfl ?_); refine bstore (t := 42) (p := 8) (v := .tmp 26) rfl rfl rfl b8 _ #[.pointer (some ⟨g, 0, none⟩), .pointer (some ⟨gr, 0, none⟩)] (.agg #[.pointer (some ⟨g, 0, none⟩), .pointer (some ⟨gr, 0, none⟩)]) rfl rfl rfl K8.out (by kernel_rfl) rfl (by simp [Value.oneCell']) ?_; intro w4 hb4 hs4 hz4 hB4; have K4 := Lib.hid hb4; have h24 := HB3.out.trans (hB4 _ HL8.out); have HB24 := Lib.hid h24; have HB4 := Lib.hid (HB2.out.trans (h24.mono HB2.out.size)); have d0 : w4.cell? ⟨b8, 0, none⟩ = some (.pointer (some ⟨g, 0, none⟩)) := cells_at hb4 0; have d1 : w4.cell? ⟨b8, 1, none⟩ = some (.pointer (some ⟨gr, 0, none⟩)) := cells_at hb4 1; have HS4 := Lib.hid (Nat.le_trans HSZ.out (Nat.le_trans HB2.out.size h24.size)); have HO4 := Lib.hid (HP.out.below HB4.out).1; clear hb4 hs4 hz4 hB4 h24) | (at_builtin; refine print_append_cells w.heap.size rfl _ _ 38 42 (.agg #[.pointer none, .pointer none]) 2 16 rfl Try.underlying38 info42 rfl (by decide) (by decide) (.slice Av es.length cv) es.length (pcel es) [.pointer (some ⟨g, 0, none⟩), .pointer (some ⟨gr, 0, none⟩)] rfl rfl rfl (by simp [Value.oneCell']) HO4.out (Below.refl _ _) HS4.out HBL.out ?_; intro v1 w5 hown hb5 hg5 hat5; have HP5 := Lib.hid (Ps.app HP.out HSZ.out HB4.out (HPR.out.move (fun k _ hk => HB24.out.block k hk) HB24.out.size) HF.out hown hg5 hat5); have HB5 := Lib.hid hb5; obtain ⟨A1, c2, rfl⟩ := own_slice hown; clear hown hb5 hg5 hat5 d0 d1))
        go_roundw
        case rel => exact ⟨k + 1, es ++ [(g, gr)], HK.out, by go_num, by have := HEK.out; simp; omega, HP5.out, (HB.out.trans (HB4.out.mono HSZ.out)).trans HB5.out⟩
        case measure => have := HK.out; simp [intOf]; omega
    · obtain rfl : k = x0.length := by omega
      have hes : (es.length : Int) ≤ 4398046510976 := by omega
      clear hlt hk hek hb
      go_wp2_with fail
      obtain ⟨WO, hWO⟩ : ∃ x, x = wr := ⟨wr, rfl⟩
      rw [← hWO] at HP HB HSZ ⊢
      clear hWO
      go_loopw [5, 10] (fun ok i wq => ∃ (k : Nat), k ≤ x1.length ∧ i = .int .i64 (k : Nat) ∧ ok = .bool true ∧ Ps w.heap.size wq (.slice Av es.length cv) es ∧ Below w.heap.size w wq) (fun _ i _ => x1.length - (intOf i).toNat)
      case atStart => exact ⟨0, Nat.zero_le _, rfl, rfl, HP.out, HB.out⟩
      case round =>
        obtain ⟨k, hk, rfl, rfl, hP, hb⟩ := hrel
        clear HP HB HSZ
        have HP := Lib.hid hP
        have HB := Lib.hid hb
        by_cases hbody : k < x1.length ∧ 0 < es.length
        · obtain ⟨ad1, kd, dk, nn, tx, rfl, ⟨o, ho, ho0, ho1, ho2, ho3⟩, hel⟩ := el50 HR1.out rfl k hbody.1 hb
          have hox := HX.out o ho
          rw [ho1, ho2, ho3] at hox
          obtain ⟨q, hq, hat⟩ := at_calls dk es.length w hbody.2 hox.2.1 (by omega)
          obtain ⟨⟨g, gr⟩, hge⟩ : ∃ e, es[q]? = some e := ⟨_, List.getElem?_eq_getElem hq⟩
          obtain ⟨bb, rfl, p0, p1⟩ := prow_cell hP.1 q g gr hge
          obtain ⟨e0, e1, e2, e3⟩ := hel wr hb
          obtain ⟨f, hpr, hone⟩ := (hP.below (W1 := wr.drew) (below_drew (Below.refl _ wr))).at_ q g gr hge
          have HPR := Lib.hid hpr
          have HONE := Lib.hid hone
          have HAT := Lib.hid hat
          have HOX := Lib.hid hox
          have HK := Lib.hid hbody.1
          have hki : (k : Int) < (x1.length : Int) := by have := hbody.1; omega
          have hqi : (q : Int) < (es.length : Int) := by omega
          have hepos : 0 < (es.length : Int) := by have := hbody.2; omega
          have hed : decide (0 < es.length) = true := decide_eq_true hbody.2
          have hkd : decide (k < x1.length) = true := decide_eq_true hbody.1
          have HPD := Lib.hid hpr
          have p0' : wr.drew.cell? ⟨bb, q * 2, none⟩ = some (.pointer (some ⟨g, 0, none⟩)) := p0
          have p1' : wr.drew.cell? ⟨bb, q * 2 + 1, none⟩ = some (.pointer (some ⟨gr, 0, none⟩)) := p1
          clear ho ho0 ho1 ho2 ho3 hox hq hat hge hel hpr hone hbody hk hP hb
          go_wp2_with fail
          go_region_law (go_simp; first | (go_at_call 23; refine (HAT.out _).mono ?_; rintro e w3 ⟨rfl, rfl⟩) | (go_at_call 22; refine (one_calls _ _ _ g gr (by exact HPD.out) kd dk nn tx HOX.out.1 HOX.out.2.2).mono ?_; rintro e w3 ⟨rfl, hq3⟩; have HQ3 := Lib.hid hq3; clear hq3))
          all_goals
            have hP3 := HONE.out _ (by exact HQ3.out)
            have HB3 := Lib.hid ((below_drew HB.out).trans hP3.2)
            have HP3 := Lib.hid hP3.1
            clear hP3
            go_wp2_with fail
            go_roundw
            case rel => exact ⟨k + 1, HK.out, by go_num, rfl, HP3.out, HB3.out⟩
            case measure => have := HK.out; simp [intOf]; omega
        · have hLi : ∃ L : Nat, L ≤ x1.length ∧ L = k ∧ ((decide (L < x1.length) = false) ∨ (decide (0 < es.length) = false)) := by
            refine ⟨k, hk, rfl, ?_⟩
            by_cases h1 : k < x1.length
            · exact .inr (decide_eq_false (fun h2 => hbody ⟨h1, h2⟩))
            · exact .inl (decide_eq_false h1)
          obtain ⟨L, hLk, rfl, hL⟩ := hLi
          clear hbody hP hb
          have hki : (L : Int) ≤ (x1.length : Int) := by omega
          rcases hL with hL | hL
          · go_wp2_with fail
            go_loopw [5, 11] (fun ok i wq => ∃ (k : Nat), k ≤ es.length ∧ i = .int .i64 (k : Nat) ∧ ok = .bool true ∧ Ps w.heap.size wq (.slice Av es.length cv) es ∧ Below w.heap.size w wq) (fun _ i _ => es.length - (intOf i).toNat)
            case atStart => exact ⟨0, Nat.zero_le _, rfl, rfl, HP.out, HB.out⟩
            case round =>
              obtain ⟨q, hq, rfl, rfl, hP, hb⟩ := hrel
              clear HP HB hL hki
              have HP := Lib.hid hP
              have HB := Lib.hid hb
              by_cases hlt : q < es.length
              · obtain ⟨⟨g, gr⟩, hge⟩ : ∃ e, es[q]? = some e := ⟨_, List.getElem?_eq_getElem hlt⟩
                obtain ⟨bb, rfl, p0, p1⟩ := prow_cell hP.1 q g gr hge
                obtain ⟨f, hpr, hone⟩ := hP.at_ q g gr hge
                obtain ⟨v, vr, room, T, s, hd, hr, h3, h4, h5, h6, hfv, hfr, _⟩ := hpr
                have HONE := Lib.hid hone
                have HK := Lib.hid hlt
                have HD := Lib.hid hd
                have HR := Lib.hid hr
                have HSZ := Lib.hid hb.size
                have HF := Lib.hid (And.intro hfv hfr)
                have hll : (bytesOf T).length = T.size := bytesOf_length T
                have H4 := Lib.hid (show s ≤ T.size ∧ (T.size : Int) ≤ room ∧ 0 ≤ room ∧ room ≤ 1048576 from ⟨h3, h4, h5, h6⟩)
                have HA24 := Lib.hid (fun (W' : World) (h : Dk W' w.heap.size g v room (s : Int) T) => bytes_dk h)
                have HA25 := Lib.hid (fun (W' : World) (h : Rk W' w.heap.size gr vr room (lay (bytesOf T) s)) => rbytes_calls h (by omega) (by omega))
                have HA26 := Lib.hid (fun (W' : World) (h : Dk W' w.heap.size g v room (s : Int) T) => safe_dk h)
                have HA27 := Lib.hid (fun (W' : World) (h : Rk W' w.heap.size gr vr room (lay (bytesOf T) s)) => rsafe_calls h (by omega) (by omega))
                have HA28 := Lib.hid (fun (W' : World) (h : Dk W' w.heap.size g v room (s : Int) T) => cut_ex h 0 h3 (by omega))
                have HA29 := Lib.hid (fun (W' : World) (h : Rk W' w.heap.size gr vr room (lay (bytesOf T) s)) => rcut_calls h 0 (by omega) (by omega) (by omega))
                rw [cut_same T s 0 h3] at HA29
                rw [str_bytes] at HA25
                generalize ex T (cutN T (s : Int) 0).toNat = X at HA28 HA29
                have hT1 := bytes_same T
                have hT2 := bytes_same2 T
                have hX1 := bytes_same X
                have hX2 := bytes_same2 X
                have hs1 : ((s : Int) == (s : Int)) = true := beq_self_eq_true _
                have hqi : (q : Int) < (es.length : Int) := by omega
                have hqd : decide (q < es.length) = true := decide_eq_true hlt
                clear hge hone hd hr hfv hfr h3 h4 h5 h6 hll hlt hq hP hb
                go_wp2_with (first | ((with_reducible refine gate_dst (N := 12) rfl ?_); refine box_event rfl (N := 12) rfl (cs := #[.pointer none, .pointer none]) (t := 42) ?hr ?_; (case hr => first | (go_simp; done) | (go_simp; rfl)); intro b12 hg_ w3 hb12 hB3; have HL12 := Lib.hid (show wr.heap.size ≤ b12 from by rw [hg_]; exact Nat.le_refl _); clear hg_; have HB3 := Lib.hid hB3; have K12 := Lib.hid hb12; clear hb12 hB3) | ((with_reducible refine gate_ (.store 42 (.tmp 12) (.tmp 79)) rfl ?_); refine bstore (t := 42) (p := 12) (v := .tmp 79) rfl rfl rfl b12 _ #[.pointer (some ⟨g, 0, none⟩), .pointer (some ⟨gr, 0, none⟩)] (.agg #[.pointer (some ⟨g, 0, none⟩), .pointer (some ⟨gr, 0, none⟩)]) rfl rfl rfl K12.out (by kernel_rfl) rfl (by simp [Value.oneCell']) ?_; intro w4 hb4 hs4 hz4 hB4; have HO := Lib.hid ((O3.start (f := f) HD.out HR.out (HB3.out.trans (hB4 _ HL12.out)) hb4 HSZ.out).drew); have c0 : w4.drew.cell? ⟨b12, 0, none⟩ = _ := HO.out.c0; have c1 : w4.drew.cell? ⟨b12, 1, none⟩ = _ := HO.out.c1; clear hb4 hs4 hz4 hB4))
                go_region_law (go_simp; first
                  | (go_at_call 24; refine (HA24.out _ (by exact HO.out.d)).mono ?_; rintro e wa ⟨rfl, hd', hl'⟩; have hO1 := HO.out.left HF.out.1 hd' hl'; have HO1 := Lib.hid hO1; have a0 := hO1.c0; have a1 := hO1.c1; clear hd' hl' hO1)
                  | (go_at_call 25; refine (HA25.out _ (by exact HO1.out.r)).mono ?_; rintro e wb ⟨rfl, hb'⟩; have hO2 := HO1.out.below hb'; have HO2 := Lib.hid hO2; have b0 := hO2.c0; have b1 := hO2.c1; clear hb' hO2)
                  | (go_at_call 26; refine (HA26.out _ (by exact HO2.out.d)).mono ?_; rintro e wc ⟨rfl, rfl⟩)
                  | (go_at_call 27; refine (HA27.out _ (by exact HO2.out.r)).mono ?_; rintro e wd ⟨rfl, rfl⟩)
                  | (go_at_call 28; refine (HA28.out _ (by exact HO2.out.d)).mono ?_; rintro e we ⟨rfl, hd', hl'⟩; have hO1 := HO2.out.left HF.out.1 hd' hl'; have HO3 := Lib.hid hO1; have d0 := hO1.c0; have d1 := hO1.c1; clear hd' hl' hO1)
                  | (go_at_call 29; refine (HA29.out _ (by exact HO3.out.r)).mono ?_; rintro e wf ⟨rfl, hb'⟩; have HO4 := Lib.hid (HO3.out.below hb'); clear hb'))
                all_goals
                  have hP3 := HONE.out _ (HO4.out.q HF.out.1 HF.out.2 H4.out.1 H4.out.2.1 H4.out.2.2.1 H4.out.2.2.2)
                  have HB3 := Lib.hid (HB.out.trans hP3.2)
                  have HP3 := Lib.hid hP3.1
                  clear hP3
                  go_wp2_with fail
                  go_roundw
                  case rel => exact ⟨q + 1, HK.out, by go_num, rfl, HP3.out, HB3.out⟩
                  case measure => have := HK.out; simp [intOf]; omega
              · obtain rfl : q = es.length := by omega
                clear hlt hq hP hb
                go_wp2_with fail
                go_ret
                exact ⟨rfl, HB.out⟩
          · have hld : decide (L < x1.length) = true ∨ decide (L < x1.length) = false := by cases decide (L < x1.length) <;> simp
            rcases hld with hld | hld
            all_goals
              go_wp2_with fail
              go_loopw [5, 11] (fun ok i wq => i = .int .i64 0 ∧ ok = .bool true ∧ Below w.heap.size w wq) (fun _ _ _ => 0)
              case atStart => exact ⟨rfl, rfl, HB.out⟩
              case round =>
                obtain ⟨rfl, rfl, hb⟩ := hrel
                clear HP HB
                have HB := Lib.hid hb
                clear hb
                go_wp2_with fail
                go_ret
                exact ⟨rfl, HB.out⟩
end Go.Proofs.Ytcoodlncjnekoaa.E
