import Derived.Test.YtcoodlncjnekoaaYi
import Derived.Test.YtcoodlncjnekoaaH0
/- JournalActs: the law's walk. Conditions: the arguments read as they must. -/
namespace Go.Proofs.Ytcoodlncjnekoaa.F
open Go.RowKit Go.Proofs.YtcoodlncjnekoaaW.Raw Go.Proofs.YtcoodlncjnekoaaW.PrintWords Go.Proofs.JournalPlain Go.Proofs.Ytcoodlncjnekoaa.D
open Go.Proofs.Ytcoodlncjnekoaa.H (S76 k76 z76 rd_T76 at_T76)
set_option linter.unusedVariables false
set_option linter.unusedSimpArgs false
theorem not_fit {x : Int} {y : ByteArray} (h : ¬ fit_ x y) : ∃ c : Int, (c = 3 ∨ c = 5) ∧ frame x y = ((⟨#[]⟩ : ByteArray), c) := by
  unfold frame
  by_cases h1 : x < 1 ∨ x > 2147483647
  · exact ⟨3, .inl rfl, by rw [if_pos h1]⟩
  · by_cases h2 : y.size > 65536
    · exact ⟨5, .inr rfl, by rw [if_neg h1, if_pos h2]⟩
    · exact absurd (show fit_ x y from ⟨by omega, by omega, by omega⟩) h
theorem act_calls {B : Nat} {f : Nat → Prop} {W : World} {t : Nat} (h : Tw B f W t) (dk x : Int) (y : ByteArray) (hy : y.size ≤ 140737488351232) :
    Calls Try.prog 41 #[.pointer (some ⟨t, 0, none⟩), .agg #[.int .i64 dk, .int .i64 x, .string y]] W fun e W' => e = .returned (.bool true) ∧ TQ B f W t W' := by
  rcases h with ⟨h1, h2, cs, h3, h4⟩ | ⟨g, j, v, room, safe, ver, T, txt, L, es, h⟩
  · exact act_dead h1 h2 h3 h4 dk x y
  by_cases k1 : dk = 1
  · by_cases hf : fit_ x y
    · by_cases hn : ((frameB x y).size : Int) ≤ room - T.size
      · exact act_fits h dk x y k1 hf hn
      · exact act_full h dk x y k1 hf hn
    · obtain ⟨c, hc, hfr⟩ := not_fit hf
      exact act_not h dk x y k1 hy c hc hfr
  by_cases k2 : dk = 2
  · exact act_sync h dk x y k2
  by_cases k3 : dk = 3
  · exact act_last h dk x y k3
  by_cases k4 : dk = 4
  · exact act_open h dk x y k4
  exact act_else h dk x y k1 k2 k3 k4
/-- Both. -/
structure Bo (w wr : World) (tA tB : Nat) (fa fb : Nat → Prop) : Prop where
  a : Tw w.heap.size fa wr tA
  b : Tw w.heap.size fb wr tB
  n : ∀ k, fa k → fb k → False
  la : ∀ k, fa k → k < wr.heap.size
  lb : ∀ k, fb k → k < wr.heap.size
  s : Below w.heap.size w wr
theorem Bo.swap {w wr : World} {tA tB : Nat} {fa fb : Nat → Prop} (h : Bo w wr tA tB fa fb) : Bo w wr tB tA fb fa := ⟨h.b, h.a, fun k h1 h2 => h.n k h2 h1, h.lb, h.la, h.s⟩
theorem Bo.after {w wr W' : World} {tA tB : Nat} {fa fb : Nat → Prop} (h : Bo w wr tA tB fa fb) (hq : TQ w.heap.size fa wr tA W') : ∃ fa', Bo w W' tA tB fa' fb := by
  obtain ⟨f', h1, h2, h3, h4⟩ := hq
  refine ⟨_, h1.bound, h.b.move (fun k hk hlt => h3.2 k hlt (fun h' => h.n k h' hk)), fun k ha hb => (h2 k ha.1).elim (fun h' => h.n k h' hb) (fun h' => by have := h.lb k hb; omega), fun k hk => hk.2, fun k hk => Nat.lt_of_lt_of_le (h.lb k hk) h3.1, h.s.trans h4⟩
def Bth (w wr : World) (tA tB : Nat) : Prop := ∃ fa fb, Bo w wr tA tB fa fb
theorem Bth.left {w wr : World} {tA tB : Nat} (h : Bth w wr tA tB) (dk x : Int) (y : ByteArray) (hy : y.size ≤ 140737488351232) :
    Calls Try.prog 41 #[.pointer (some ⟨tA, 0, none⟩), .agg #[.int .i64 dk, .int .i64 x, .string y]] wr fun e W' => e = .returned (.bool true) ∧ Bth w W' tA tB := by
  obtain ⟨fa, fb, h⟩ := h
  refine (act_calls h.a dk x y hy).mono ?_
  rintro e W' ⟨rfl, hq⟩
  obtain ⟨fa', h'⟩ := h.after hq
  exact ⟨rfl, fa', fb, h'⟩
theorem Bth.right {w wr : World} {tA tB : Nat} (h : Bth w wr tA tB) (dk x : Int) (y : ByteArray) (hy : y.size ≤ 140737488351232) :
    Calls Try.prog 41 #[.pointer (some ⟨tB, 0, none⟩), .agg #[.int .i64 dk, .int .i64 x, .string y]] wr fun e W' => e = .returned (.bool true) ∧ Bth w W' tA tB := by
  obtain ⟨fa, fb, h⟩ := h
  refine (act_calls h.b dk x y hy).mono ?_
  rintro e W' ⟨rfl, hq⟩
  obtain ⟨fb', h'⟩ := h.swap.after hq
  exact ⟨rfl, fa, fb', h'.swap⟩
theorem Bth.below {w wr : World} {tA tB : Nat} (h : Bth w wr tA tB) : Below w.heap.size w wr := by
  obtain ⟨_, _, h⟩ := h
  exact h.s
/-- What looks is asked for: the cell, and what the call leaves. -/
def Lk (B : Nat) (f : Nat → Prop) (W : World) (t : Nat) : Prop := W.cell? ⟨t, 1, none⟩ = some (.pointer none) ∨ ∃ j, W.cell? ⟨t, 1, none⟩ = some (.pointer (some ⟨j, 0, none⟩)) ∧ Calls Try.prog 42 #[.pointer (some ⟨t, 0, none⟩)] W fun e W' => e = .returned (.bool true) ∧ Kept W W' f ∧ Below B W W'
theorem Tw.lk {B : Nat} {f : Nat → Prop} {W : World} {t : Nat} (h : Tw B f W t) : Lk B f W t := by
  rcases h with ⟨h1, h2, cs, h3, h4⟩ | ⟨g, j, v, room, safe, ver, T, txt, L, es, h⟩
  · exact .inl ((cells_at h3 1).trans h4)
  · refine .inr ⟨j, h.c1, (looks_calls (Aq.start h)).mono ?_⟩
    rintro e W' ⟨rfl, hq⟩
    exact ⟨rfl, hq.k, hq.b⟩
theorem bo_new {w w1 w2 w3 : World} {tA tB : Nat} {fa fb : Nat → Prop} (ha : Tw w.heap.size fa w2 tA) (hfa : ∀ k, fa k → w1.heap.size ≤ k ∧ k < w2.heap.size) (hb : Tw w.heap.size fb w3 tB) (hfb : ∀ k, fb k → w2.heap.size ≤ k ∧ k < w3.heap.size) (h1 : Below w.heap.size w w1) (h2 : Below w1.heap.size w1 w2) (h3 : Below w2.heap.size w2 w3) : Bth w w3 tA tB :=
  ⟨fa, fb, ha.move (fun k hk hlt => h3.block k hlt), hb, fun k h4 h5 => by have := (hfa k h4).2; have := (hfb k h5).1; omega, fun k hk => Nat.lt_of_lt_of_le (hfa k hk).2 h3.size, fun k hk => (hfb k hk).2, h1.trans ((h2.mono h1.size).trans (h3.mono (Nat.le_trans h1.size h2.size)))⟩
theorem st76 {w W : World} {A : Option Addr} {n : Nat} {xs : List S76} (h : Kd.C k76 w A n xs) (hn : n = xs.length) (k : Nat) (hk : k < xs.length) : ∃ (ad : Addr) (dk x : Int) (y : ByteArray), A = some ad ∧ (∃ o ∈ xs, o.f1.f1 = y) ∧
    ∀ W, Below w.heap.size w W → W.cell? (ad.add (k * 3)) = some (.int .i64 dk) ∧ W.cell? ⟨(ad.add (k * 3)).block, (ad.add (k * 3)).off + 1, none⟩ = some (.int .i64 x) ∧ W.cell? ⟨(ad.add (k * 3)).block, (ad.add (k * 3)).off + 2, none⟩ = some (.string y) := by
  subst hn
  obtain ⟨ad, rfl, e0, e1, e2⟩ := at_T76 h (k : Int) (by omega) (by omega)
  have hrd : rd_T76 xs (k : Int) = xs[k] := by unfold rd_T76; simp [List.getD_eq_getElem?_getD, hk]
  rw [hrd] at e0 e1 e2
  simp only [Int.toNat_natCast] at e0 e1 e2
  exact ⟨ad, _, _, _, rfl, ⟨xs[k], List.getElem_mem hk, rfl⟩, fun W hW => ⟨(hW.cell (World.block_lt_of_cell? w _ e0)).trans e0, (hW.cell (World.block_lt_of_cell? w _ e1)).trans e1, (hW.cell (World.block_lt_of_cell? w _ e2)).trans e2⟩⟩
set_option maxHeartbeats 4000000 in
set_option maxRecDepth 100000 in
theorem acts_walk (sa sb : ByteArray) (ra rb : Int) (x0 x1 : List S76) (A0 A1 : Option Addr) (c0 c1 : Nat) (w : World) (hr0 : Kd.C k76 w A0 x0.length x0) (hr1 : Kd.C k76 w A1 x1.length x1) (hl0 : x0.length * 32 ≤ 140737488351232) (hl1 : x1.length * 32 ≤ 140737488351232)
    (hsa : sa.size ≤ 140737488351232) (hsb : sb.size ≤ 140737488351232) (hn0 : ∀ x ∈ x0, x.f1.f1.size ≤ 140737488351232) (hn1 : ∀ x ∈ x1, x.f1.f1.size ≤ 140737488351232) :
    Calls Try.prog 12 #[.agg #[.string sa, .int .i64 ra], .agg #[.string sb, .int .i64 rb], .slice A0 x0.length c0, .slice A1 x1.length c1] w fun e w' => e = .returned (.bool true) ∧ Below w.heap.size w w' := by
  have HR0 := Lib.hid hr0
  have HR1 := Lib.hid hr1
  have HN0 := Lib.hid hn0
  have HN1 := Lib.hid hn1
  have HMA := Lib.hid (fun (W : World) (hB : w.heap.size ≤ W.heap.size) => made_calls w.heap.size W sa ra hB hsa)
  have HMB := Lib.hid (fun (W : World) (hB : w.heap.size ≤ W.heap.size) => made_calls w.heap.size W sb rb hB hsb)
  have hL0 : (x0.length : Int) ≤ 4398046510976 := by omega
  have hL1 : (x1.length : Int) ≤ 4398046510976 := by omega
  have U1 : True := trivial
  clear hr0 hr1 hn0 hn1 hl0 hl1 hsa hsb
  go_enter Try.func12, Try.ntmps12
  go_wp2_with (first
    | ((with_reducible refine gate_dst (N := 4) rfl ?_); refine box_event rfl (N := 4) rfl (cs := #[.string sa, .int .i64 ra]) (t := 66) ?hr ?_; (case hr => first | (go_simp; done) | (go_simp; rfl)); intro b4 hg w1 hb0 hbel; have HB1 := Lib.hid hbel; have K4 := Lib.hid hb0; clear hg hb0 hbel)
    | ((with_reducible refine gate_dst (N := 5) rfl ?_); refine box_event rfl (N := 5) rfl (cs := #[.string sb, .int .i64 rb]) (t := 66) ?hr ?_; (case hr => first | (go_simp; done) | (go_simp; rfl)); intro b5 hg w2 hb0 hbel; have HB2 := Lib.hid (HB1.out.trans (hbel.mono HB1.out.size)); have K42 := Lib.hid ((hbel.block _ (lt_blk K4.out)).trans K4.out); have K5 := Lib.hid hb0; have a0 : w2.cell? ⟨b4, 0, none⟩ = some (.string sa) := cells_at K42.out 0; have a1 : w2.cell? ⟨b4, 1, none⟩ = some (.int .i64 ra) := cells_at K42.out 1; clear hg hb0 hbel)
    | (go_at_call 39; refine (jopen_nil _).mono ?_; rintro e w3 ⟨rfl, rfl⟩)
    | (go_at_call 40; clear U1; refine (HMA.out _ HB2.out.size).mono ?_; rintro e w4 ⟨tA, fa, rfl, hT, hf, hb⟩; have HTA := Lib.hid hT; have HFA := Lib.hid hf; have HB4 := Lib.hid hb; have k5 := (hb.block _ (lt_blk K5.out)).trans K5.out; clear a0 a1; have d0 : w4.cell? ⟨b5, 0, none⟩ = some (.string sb) := cells_at k5 0; have d1 : w4.cell? ⟨b5, 1, none⟩ = some (.int .i64 rb) := cells_at k5 1; clear hT hf hb k5)
    | (go_at_call 40; refine (HMB.out _ (Nat.le_trans HB2.out.size HB4.out.size)).mono ?_; rintro e w5 ⟨tB, fb, rfl, hT, hf, hb⟩; have HBT := Lib.hid (bo_new HTA.out HFA.out hT hf HB2.out HB4.out hb); clear hT hf hb d0 d1))
  obtain ⟨M, hM⟩ : ∃ M, M = max x0.length x1.length := ⟨_, rfl⟩
  have HM1 := Lib.hid (show x0.length ≤ M ∧ x1.length ≤ M ∧ M ≤ 4398046510976 from ⟨by omega, by omega, by omega⟩)
  clear hM HTA HFA HB4 HB2 HB1 K4 K42 K5 HMA HMB
  go_loopw [13, 16] (fun ok i wr => ∃ k : Nat, k ≤ M ∧ i = .int .i64 (k : Nat) ∧ ok = .bool true ∧ Bth w wr tA tB) (fun _ i _ => M - (intOf i).toNat)
  case atStart => exact ⟨0, Nat.zero_le _, rfl, rfl, HBT.out⟩
  case round =>
    obtain ⟨k, hk, rfl, rfl, hMk⟩ := hrel
    have HM := Lib.hid hMk
    clear HBT hMk
    by_cases h0 : k < x0.length
    · obtain ⟨ad0, dk, x, y, rfl, ⟨o, ho, hoy⟩, hst0⟩ := st76 (W := w) HR0.out rfl k h0
      have HY := Lib.hid (show y.size ≤ 140737488351232 from hoy ▸ HN0.out o ho)
      have hk0 : (k : Int) < (x0.length : Int) := by omega
      have hk0d : decide ((k : Int) < (x0.length : Int)) = true := decide_eq_true hk0
      have HKM := Lib.hid (show k + 1 ≤ M from by have := HM1.out.1; omega)
      obtain ⟨q0, q1, q2⟩ := hst0 _ HM.out.below
      clear ho hoy hst0 h0 hk
      by_cases h1 : k < x1.length
      · obtain ⟨ad1, dk2, x2, y2, rfl, ⟨o, ho, hoy⟩, hst1⟩ := st76 (W := w) HR1.out rfl k h1
        have HY2 := Lib.hid (show y2.size ≤ 140737488351232 from hoy ▸ HN1.out o ho)
        have HS1 := Lib.hid hst1
        have hk1 : (k : Int) < (x1.length : Int) := by omega
        have hk1d : decide ((k : Int) < (x1.length : Int)) = true := decide_eq_true hk1
        have U1 : True := trivial
        clear ho hoy hst1 h1
        go_wp2_with (first | (go_at_call 41; clear U1; go_must (refine (HM.out.left dk x y HY.out).mono ?_); rintro e w2 ⟨rfl, hM2⟩; obtain ⟨r0, r1, r2⟩ := HS1.out _ hM2.below; have HM2 := Lib.hid hM2; clear hM2 q0 q1 q2) | (go_at_call 41; go_must (refine (HM2.out.right dk2 x2 y2 HY2.out).mono ?_); rintro e w3 ⟨rfl, hM3⟩; have HM3 := Lib.hid hM3; clear hM3 r0 r1 r2))
        go_roundw
        case rel => exact ⟨k + 1, HKM.out, by go_num, rfl, HM3.out⟩
        case measure => have := HKM.out; simp [intOf]; omega
      · have hk1 : ¬ (k : Int) < (x1.length : Int) := by omega
        have hk1d : decide ((k : Int) < (x1.length : Int)) = false := decide_eq_false hk1
        clear h1
        go_wp2_with (first | (go_at_call 41; go_must (refine (HM.out.left dk x y HY.out).mono ?_); rintro e w2 ⟨rfl, hM2⟩; have HM2 := Lib.hid hM2; clear hM2 q0 q1 q2))
        go_roundw
        case rel => exact ⟨k + 1, HKM.out, by go_num, rfl, HM2.out⟩
        case measure => have := HKM.out; simp [intOf]; omega
    · have hk0 : ¬ (k : Int) < (x0.length : Int) := by omega
      have hk0d : decide ((k : Int) < (x0.length : Int)) = false := decide_eq_false hk0
      by_cases h1 : k < x1.length
      · obtain ⟨ad1, dk2, x2, y2, rfl, ⟨o, ho, hoy⟩, hst1⟩ := st76 (W := w) HR1.out rfl k h1
        have HY2 := Lib.hid (show y2.size ≤ 140737488351232 from hoy ▸ HN1.out o ho)
        have hk1 : (k : Int) < (x1.length : Int) := by omega
        have hk1d : decide ((k : Int) < (x1.length : Int)) = true := decide_eq_true hk1
        have HKM := Lib.hid (show k + 1 ≤ M from by have := HM1.out.2.1; omega)
        obtain ⟨r0, r1, r2⟩ := hst1 _ HM.out.below
        clear ho hoy hst1 h1 h0 hk
        go_wp2_with (first | (go_at_call 41; go_must (refine (HM.out.right dk2 x2 y2 HY2.out).mono ?_); rintro e w3 ⟨rfl, hM3⟩; have HM3 := Lib.hid hM3; clear hM3 r0 r1 r2))
        go_roundw
        case rel => exact ⟨k + 1, HKM.out, by go_num, rfl, HM3.out⟩
        case measure => have := HKM.out; simp [intOf]; omega
      · have hk1 : ¬ (k : Int) < (x1.length : Int) := by omega
        have hk1d : decide ((k : Int) < (x1.length : Int)) = false := decide_eq_false hk1
        obtain ⟨fa, fb, hbo⟩ := HM.out
        have HBO := Lib.hid hbo
        clear h0 h1 hk
        rcases hbo.a.lk with ca | ⟨ja, ca, hca⟩
        · rcases hbo.b.lk with cb | ⟨jb, cb, hcb⟩
          · clear hbo
            go_wp2_with fail
            go_ret
            exact ⟨rfl, HBO.out.s⟩
          · have HC := Lib.hid hcb
            clear hcb hbo
            go_wp2_with (first | (go_at_call 42; refine HC.out.mono ?_; rintro e w9 ⟨rfl, hk9, hb9⟩; have HB9 := Lib.hid hb9; clear hk9 hb9))
            go_ret
            exact ⟨rfl, HBO.out.s.trans HB9.out⟩
        · have HC := Lib.hid hca
          clear hca hbo
          rcases HBO.out.b with ⟨b1, b2, cs, b3, b4⟩ | ⟨g, j, v, room, safe, ver, T, txt, L, es, h⟩
          · have HX := Lib.hid (And.intro b1 (And.intro b3 b4))
            clear b1 b2 b3 b4
            go_wp2_with (first | (go_at_call 42; refine HC.out.mono ?_; rintro e w9 ⟨rfl, hk9, hb9⟩; have HB9 := Lib.hid hb9; have cb : w9.cell? ⟨tB, 1, none⟩ = some (.pointer none) := (cells_at ((hk9.2 _ (lt_blk HX.out.2.1) (fun h' => HBO.out.n _ h' HX.out.1)).trans HX.out.2.1) 1).trans HX.out.2.2; clear hk9 hb9))
            go_ret
            exact ⟨rfl, HBO.out.s.trans HB9.out⟩
          · have HX := Lib.hid h
            have U1 : True := trivial
            clear h
            go_wp2_with (first | (go_at_call 42; clear U1; refine HC.out.mono ?_; rintro e w9 ⟨rfl, hk9, hb9⟩; have HB9 := Lib.hid hb9; have h9 := HX.out.move (W1 := w9) (fun k hk hlt => hk9.2 k hlt (fun h' => HBO.out.n k h' hk)); have cb : w9.cell? ⟨tB, 1, none⟩ = some (.pointer (some ⟨j, 0, none⟩)) := h9.c1; have H9 := Lib.hid h9; clear hk9 hb9 h9) | (go_at_call 42; refine (looks_calls (Aq.start H9.out)).mono ?_; rintro e w10 ⟨rfl, hq⟩; have HQ := Lib.hid hq; clear hq))
            go_ret
            exact ⟨rfl, (HBO.out.s.trans HB9.out).trans HQ.out.b⟩
end Go.Proofs.Ytcoodlncjnekoaa.F
