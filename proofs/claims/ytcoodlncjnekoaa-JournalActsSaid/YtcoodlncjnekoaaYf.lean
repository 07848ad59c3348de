import Derived.Test.YtcoodlncjnekoaaYd
import Derived.Test.YtcoodlncjnekoaaYe
/- JournalActs: open. Conditions: each theorem's own. -/
namespace Go.Proofs.Ytcoodlncjnekoaa.F
open Go.RowKit Go.Proofs.YtcoodlncjnekoaaW.Raw Go.Proofs.YtcoodlncjnekoaaW.PrintWords Go.Proofs.JournalPlain Go.Proofs.Ytcoodlncjnekoaa.D
set_option linter.unusedVariables false
set_option linter.unusedSimpArgs false
theorem Al.bound {B : Nat} {f : Nat → Prop} {W : World} {t g j : Nat} {v : Value} {room safe ver : Int} {T txt : ByteArray} {L : Value} {es : List S23} (h : Al B f W t g j v room safe ver T txt L es) : Al B (fun k => f k ∧ k < W.heap.size) W t g j v room safe ver T txt L es :=
  { h with ft := ⟨h.ft, lt_blk h.blk⟩, fj := ⟨h.fj, lt_blk h.jn⟩, fd := fun k hk => ⟨h.fd k hk, foot_lt h.d k hk⟩, fl := fun k hk => ⟨h.fl k hk, own_ltR h.row k hk⟩ }
theorem rt_lower {W : World} {B B' : Nat} {L : Value} {es : List S23} (h : Rt W B L es) (hb : B' ≤ B) : Rt W B' L es := Rt.of (Kd.R_lower h hb)
theorem rt_set {W : World} {B t : Nat} {L : Value} {es : List S23} {cs : Array Value} {ty : TypeId} {fr : Nat × Nat} (h : Rt W B L es) (hk : W.heap[t]? = some (.cells cs ty fr)) (hty : ty ≠ 23) (i : Nat) (u : Value) : Rt (W.setCell ⟨t, i, none⟩ u) B L es :=
  h.keep fun k hk2 _ => Below.heap_setCell _ _ _ _ (by
    obtain ⟨c, h3⟩ := Kd.R_typed h k hk2
    exact typ_diff h3 hk (fun e => hty e.symm))
theorem kept_below2b {W W1 : World} {n : Nat} (h : Below n W W1) : Kept W W1 (fun k => False ∨ n ≤ k) := ⟨h.size, fun i hi hn => h.block i (Nat.lt_of_not_le (fun e => hn (.inr e)))⟩
/-- Behind the two stores: the journal is opened, what Open told lies by itself. -/
structure Op4 (B : Nat) (f : Nat → Prop) (W W4 : World) (t g j : Nat) (v : Value) (room safe ver : Int) (T txt : ByteArray) (L : Value) (es : List S23) (G : Value) : Prop where
  a : Al B (fun k => (f k ∨ W.heap.size ≤ k) ∧ G.ownBlock ≠ some k) W4 t g j v room safe ver T txt L es
  r : Rt W4 W.heap.size G es
  k : Kept W W4 f
  b : Below B W W4
theorem Op4.mk4 {B : Nat} {f : Nat → Prop} {W w1 w2 : World} {t g j : Nat} {v jp Lp : Value} {room safe ver : Int} {T txt : ByteArray} {L : Value} {es : List S23} {G : Value} (hB : B ≤ t) (hBW : B ≤ W.heap.size) (hft : f t) (hfd : ∀ k, foot g v k → f k) (h0 : 0 ≤ room) (h1 : (T.size : Int) ≤ room) (h2 : room ≤ 1048576) (hn : es.length ≤ 1048576)
    (hb1 : Below W.heap.size W w1) (hr1 : Kd.R k23 23 w1 W.heap.size (fun _ => True) L es) (hd1 : Dk w1 B g v room safe T) (hk2 : w2.heap[t]? = some (.cells #[.pointer (some ⟨g, 0, none⟩), jp, .string T, .int .i64 room, .int .i64 safe, Lp] 82 (0, 0))) (hl2 : D.Left w1 w2 B g v) (hd2 : Dk w2 B g v room safe T)
    (hj2 : Jn w2 j g ver txt (decide (0 < es.length))) (hla : 0 < es.length → ver = (rd_T23 es ((es.length : Int) - 1)).f0 ∧ txt = (rd_T23 es ((es.length : Int) - 1)).f1) (hze : es.length = 0 → ver = 0 ∧ txt = ⟨#[]⟩) (hg2 : Kd.R k23 23 w2 w1.heap.size (fun _ => True) G es) (hjs : w1.heap.size ≤ j) :
    Op4 B f W ((w2.setCell ⟨t, 1, none⟩ (.pointer (some ⟨j, 0, none⟩))).setCell ⟨t, 5, none⟩ L) t g j v room safe ver T txt L es G := by
  have s1 := hb1.size
  have b1 := blk_put (cs' := #[.pointer (some ⟨g, 0, none⟩), .pointer (some ⟨j, 0, none⟩), .string T, .int .i64 room, .int .i64 safe, Lp]) hk2 1 (.pointer (some ⟨j, 0, none⟩)) rfl
  have b2 := blk_put (cs' := #[.pointer (some ⟨g, 0, none⟩), .pointer (some ⟨j, 0, none⟩), .string T, .int .i64 room, .int .i64 safe, L]) b1 5 L rfl
  have hG : ∀ k, G.ownBlock = some k → w1.heap.size ≤ k := fun k hk => Kd.R_base hg2 k hk
  have hL1 : ∀ k, L.ownBlock = some k → k < w1.heap.size := own_ltR (Rt.of hr1)
  have hr2 := rt_left hd1 hl2 (Rt.of hr1)
  refine ⟨⟨b2, (hd2.set hk2 (by decide) (by decide) 1 _).set b1 (by decide) (by decide) 5 _, ?_, hla, hze, rt_lower (rt_set (rt_set hr2 hk2 (by decide) 1 _) b1 (by decide) 5 _) hBW, h0, h1, h2, by omega, hB, by omega, ⟨.inl hft, fun e => ?_⟩, ⟨.inr (by omega), fun e => ?_⟩, fun k hk => ⟨.inl (hfd k hk), fun e => ?_⟩, fun k hk => ⟨.inr (Kd.R_base hr1 k hk), fun e => ?_⟩⟩, rt_lower (rt_set (rt_set (Rt.of hg2) hk2 (by decide) 1 _) b1 (by decide) 5 _) s1, ?_, ?_⟩
  · have hne : j ≠ t := typ_diff hj2 hk2 (by decide)
    exact (Below.heap_setCell _ _ _ _ hne).trans ((Below.heap_setCell _ _ _ _ hne).trans hj2)
  · obtain ⟨c, h⟩ := Kd.R_typed hg2 t e
    exact typ_diff h hk2 (by decide) rfl
  · obtain ⟨c, h⟩ := Kd.R_typed hg2 j e
    exact typ_diff h hj2 (by decide) rfl
  · have := hG k e
    have := foot_lt hd1 k hk
    omega
  · have := hG k e
    have := hL1 k hk
    omega
  · exact (((kept_below2 hb1).then_ (kept_left2 hl2 hfd) (fun _ h => .inl h)).setCell (p := ⟨t, 1, none⟩) (.inl hft) _).setCell (p := ⟨t, 5, none⟩) (.inl hft) _
  · exact (((hb1.mono hBW).trans hl2.1).setCell (p := ⟨t, 1, none⟩) hB _).setCell (p := ⟨t, 5, none⟩) hB _
section
variable {B : Nat} {f : Nat → Prop} {W : World} {t g : Nat} {jp Lp v : Value} {room safe : Int} {T : ByteArray}
set_option maxRecDepth 100000 in
theorem open_torn (hb : W.heap[t]? = some (.cells #[.pointer (some ⟨g, 0, none⟩), jp, .string T, .int .i64 room, .int .i64 safe, Lp] 82 (0, 0))) (hd : Dk W B g v room safe T) (ht : B ≤ t) (hft : f t) (hfd : ∀ k, foot g v k → f k)
    (es : List S23) (n : Int) (hR : gatehouseref22_Read.f 4000000 T = some (es, n)) (hJ : journal_Read.f 4000000 T = some (es, n)) (hn : n ≠ (T.size : Int)) :
    Calls Try.prog 61 #[.pointer (some ⟨t, 0, none⟩)] W fun e W' => e = .returned (.bool true) ∧ TQ B f W t W' := by
  have CR := Lib.hid (fun W => gatehouseref22_Read.calls 4000000 T es n W hR)
  have hBw : B ≤ W.heap.size := Nat.le_trans ht (Nat.le_of_lt (lt_blk hb))
  have CO := Lib.hid (fun (W' : World) (h : Dk W' B g v room safe T) (hw : B ≤ W'.heap.size) => jopen_torn h hw es n 4000000 hJ hn)
  have hne : (n == (T.size : Int)) = false := beq_eq_false_iff_ne.2 hn
  have HT := Lib.hid hb
  have HD := Lib.hid hd
  have HF := Lib.hid (And.intro hft hfd)
  have HTB := Lib.hid ht
  have HBW := Lib.hid hBw
  have c2 : W.cell? ⟨t, 2, none⟩ = some (.string T) := cells_at hb 2
  clear hb hd ht hft hfd hR hJ hn hBw
  go_enter Try.func61, Try.ntmps61
  go_wp2_with fail
  refine (CR.out _).mono ?_
  rintro e w1 ⟨u, rfl, hr, hb1⟩
  obtain ⟨Au, cu, rfl⟩ := Kd.R_slice hr
  have HB1 := Lib.hid hb1
  have hk1 := (hb1.block _ (lt_blk HT.out)).trans HT.out
  have HK1 := Lib.hid hk1
  have HD1 := Lib.hid (HD.out.below hb1)
  have c0 : w1.cell? ⟨t, 0, none⟩ = some (.pointer (some ⟨g, 0, none⟩)) := cells_at hk1 0
  clear hr hb1 hk1 c2
  go_wp2_with fail
  refine (CO.out _ HD1.out (Nat.le_trans HBW.out HB1.out.size)).mono ?_
  rintro e w2 ⟨rfl, hd2, hl2⟩
  have hk2 := hl2.keep HD1.out HK1.out (by decide) (by decide)
  have HK2 := Lib.hid hk2
  have HL2 := Lib.hid hl2
  have c2 : w2.cell? ⟨t, 2, none⟩ = some (.string T) := cells_at hk2 2
  have c1 : w2.cell? ⟨t, 1, none⟩ = some jp := cells_at hk2 1
  have f1 := fz_at hk2 1
  clear hd2 hl2 hk2 c0
  go_wp2_with fail
  go_ret
  refine ⟨rfl, f, .inl ⟨HF.out.1, HTB.out, _, blk_put (cs' := #[.pointer (some ⟨g, 0, none⟩), .pointer none, .string T, .int .i64 room, .int .i64 safe, Lp]) HK2.out 1 (.pointer none) rfl, rfl⟩, fun k hk => .inl hk, ?_, ?_⟩
  · exact ((kept_below2 HB1.out).then_ (kept_left2 HL2.out HF.out.2) (fun _ h => .inl h)).setCell (p := ⟨t, 1, none⟩) (.inl HF.out.1) _
  · exact ((HB1.out.mono HBW.out).trans HL2.out.1).setCell (p := ⟨t, 1, none⟩) HTB.out _
set_option maxHeartbeats 2000000 in
set_option maxRecDepth 100000 in
theorem open_full (hb : W.heap[t]? = some (.cells #[.pointer (some ⟨g, 0, none⟩), jp, .string T, .int .i64 room, .int .i64 safe, Lp] 82 (0, 0))) (hd : Dk W B g v room safe T) (ht : B ≤ t) (hft : f t) (hfd : ∀ k, foot g v k → f k) (h0 : 0 ≤ room) (h1 : (T.size : Int) ≤ room) (h2 : room ≤ 1048576)
    (es : List S23) (hR : gatehouseref22_Read.f 4000000 T = some (es, (T.size : Int))) (hJ : journal_Read.f 4000000 T = some (es, (T.size : Int))) (hn : es.length ≤ 1048576) :
    Calls Try.prog 61 #[.pointer (some ⟨t, 0, none⟩)] W fun e W' => e = .returned (.bool true) ∧ TQ B f W t W' := by
  have CR := Lib.hid (fun W => gatehouseref22_Read.calls 4000000 T es (T.size : Int) W hR)
  have hBw : B ≤ W.heap.size := Nat.le_trans ht (Nat.le_of_lt (lt_blk hb))
  have CO := Lib.hid (fun (W' : World) (h : Dk W' B g v room safe T) (hw : B ≤ W'.heap.size) => jopen_all h hw es 4000000 hJ hn)
  have hne : ((T.size : Int) == (T.size : Int)) = true := beq_self_eq_true _
  have HT := Lib.hid hb
  have HD := Lib.hid hd
  have HF := Lib.hid (And.intro hft hfd)
  have H012 := Lib.hid (And.intro h0 (And.intro h1 h2))
  have HTB := Lib.hid ht
  have HBW := Lib.hid hBw
  have HN := Lib.hid hn
  have c2 : W.cell? ⟨t, 2, none⟩ = some (.string T) := cells_at hb 2
  clear hb hd ht hft hfd hR hJ hn hBw h0 h1 h2
  go_enter Try.func61, Try.ntmps61
  go_wp2_with fail
  refine (CR.out _).mono ?_
  rintro e w1 ⟨u, rfl, hr, hb1⟩
  obtain ⟨Au, cu, rfl⟩ := Kd.R_slice hr
  have HB1 := Lib.hid hb1
  have HR1 := Lib.hid hr
  have hk1 := (hb1.block _ (lt_blk HT.out)).trans HT.out
  have HK1 := Lib.hid hk1
  have HD1 := Lib.hid (HD.out.below hb1)
  have c0 : w1.cell? ⟨t, 0, none⟩ = some (.pointer (some ⟨g, 0, none⟩)) := cells_at hk1 0
  clear hr hb1 hk1 c2
  go_wp2_with fail
  refine (CO.out _ HD1.out (Nat.le_trans HBW.out HB1.out.size)).mono ?_
  rintro e w2 ⟨j, u2, ver, txt, rfl, hd2, hj2, hla, hze, hr2, hl2, hjs⟩
  obtain ⟨Ag, cg, rfl⟩ := Kd.R_slice hr2
  have hk2 := hl2.keep HD1.out HK1.out (by decide) (by decide)
  have HO4 := Lib.hid (Op4.mk4 HTB.out HBW.out HF.out.1 HF.out.2 H012.out.1 H012.out.2.1 H012.out.2.2 HN.out HB1.out HR1.out HD1.out hk2 hl2 hd2 hj2 hla hze hr2 hjs)
  have c2 : w2.cell? ⟨t, 2, none⟩ = some (.string T) := cells_at hk2 2
  have c1 : w2.cell? ⟨t, 1, none⟩ = some jp := cells_at hk2 1
  have f1 := fz_at hk2 1
  have c5 : w2.cell? ⟨t, 5, none⟩ = some Lp := cells_at hk2 5
  have f5 := fz_at hk2 5
  have SAME := Lib.hid (fun W q1 q2 => gatehouseref22_Same.calls 4000000 Ag cg es Au cu es true W q1 (Kd.R_reads' hr2).2.1 q2 (Kd.R_reads' HR1.out).2.1 (Same_refl _ (by have := HN.out; omega) _ (by have := HN.out; omega)))
  clear hd2 hl2 hk2 hj2 hla hze hr2 hjs c0 HT HD HD1 HK1 HR1 HB1 CR CO HF H012
  go_wp2_with (first | (go_at_call 19; refine (SAME.out _ (Kd.R_reads' HO4.out.r).2.2 (Kd.R_reads' HO4.out.a.row).2.2).mono ?_; rintro e w5 ⟨rfl, hd5⟩; have HA5 := Lib.hid (HO4.out.a.below hd5.below).bound; have HG5 := Lib.hid (HO4.out.r.below hd5.below); have HK5 := Lib.hid (HO4.out.k.below hd5.below); have HB5 := Lib.hid (HO4.out.b.trans (hd5.below.mono HO4.out.a.bs)); clear hd5 c1 c2 c5 f1 f5))
  obtain ⟨fq, hfq⟩ : ∃ fq : Nat → Prop, fq = fun k => ((f k ∨ W.heap.size ≤ k) ∧ (Value.slice Ag es.length cg).ownBlock ≠ some k) ∧ k < w5.heap.size := ⟨_, rfl⟩
  have HQ := Lib.hid (show (∀ k, fq k → f k ∨ W.heap.size ≤ k) ∧ (∀ k, fq k → (Value.slice Ag es.length cg).ownBlock = some k → False) ∧ (∀ k, fq k → k < w5.heap.size) from by
    rw [hfq]; exact ⟨fun k hk => hk.1.1, fun k hk => hk.1.2, fun k hk => hk.2⟩)
  rw [← hfq] at HA5
  clear hfq HO4 SAME
  go_loopw [8] (fun i wr => ∃ (k : Nat) (X : List S23), k ≤ es.length ∧ i = .int .i64 (k : Nat) ∧ X.length = es.length ∧ Al B fq wr t g j v room safe ver T txt (.slice Au es.length cu) es ∧ Rt wr W.heap.size (.slice Ag es.length cg) X ∧ Below W.heap.size w5 wr) (fun i _ => es.length - (intOf i).toNat)
  case atStart => exact ⟨0, es, Nat.zero_le _, rfl, rfl, HA5.out, HG5.out, Below.refl _ _⟩
  case round =>
    obtain ⟨k, X, hk, rfl, hX, ha, hg, hb⟩ := hrel
    by_cases hlt : k < es.length
    · have hix : (k : Int) < (es.length : Int) := by omega
      obtain ⟨gg, hA1⟩ : ∃ gg, Ag = some ⟨gg, 0, none⟩ := by
        obtain ⟨inner, ho⟩ := Kd.R_own hg
        rcases ho.2 with ⟨hv, h0⟩ | ⟨gg, cap, cur, hv, _⟩
        · injection hv with _ hv _
          omega
        · injection hv with hv _ _
          exact ⟨gg, hv⟩
      subst hA1
      obtain ⟨ce, hcl, hcM, hcc, hcf⟩ := Kd.R_elem hg z23 (k : Int) (by omega) hix
      have hkk : (k : Int).toNat = k := rfl
      rw [hkk] at hcc hcf
      have hcl2 : ce.length = 2 := hcl
      obtain ⟨q0, q1, rfl⟩ : ∃ q0 q1, ce = [q0, q1] := by
        match ce, hcl2 with
        | [a, b], _ => exact ⟨a, b, rfl⟩
      have hrs := Kd.R_seg (seg := [.int .i64 99, .string ⟨#[109, 97, 114, 107]⟩]) (j := 0) (okp := fun _ => False) (x' := (⟨99, ⟨#[109, 97, 114, 107]⟩⟩ : S23)) hg (k : Int) (by omega) hix rfl hcc (show 0 + 2 ≤ 2 by decide) (k23_mkM _ _ _ (⟨99, ⟨#[109, 97, 114, 107]⟩⟩ : S23)) (fun _ h => h.elim)
      rw [hkk] at hrs
      have hBg : W.heap.size ≤ gg := Kd.R_base hg gg rfl
      have HRS := Lib.hid hrs
      have HBG := Lib.hid hBg
      have s0 := hcc 0 q0 rfl
      have s1 := hcc 1 q1 rfl
      have t0 := hcf 0
      have t1 := hcf 1
      have ez : k23.sz = 2 := rfl
      rw [ez] at s0 s1 t0 t1
      rw [Nat.add_zero] at s0 t0
      have HA := Lib.hid ha
      have HB := Lib.hid hb
      have HX := Lib.hid hX
      have HL := Lib.hid hlt
      have HWR := Lib.hid (show wrap64 ((k : Int) + 1) = ((k + 1 : Nat) : Int) by have := HN.out; unfold wrap64; omega)
      clear hrs hBg ha hg hb hX hcc hcf hcl hcl2 hcM hlt hk
      go_wp2_with fail
      go_roundw
      case rel => exact ⟨k + 1, _, HL.out, by rw [HWR.out], by simp [HX.out], HA.out.move (fun i hi hlt => HRS.out.2.block i hlt (fun e => HQ.out.2.1 i hi e.symm)), HRS.out.1, (HB.out.setCell (p := ⟨gg, k * 2, none⟩) HBG.out _).setCell (p := ⟨gg, k * 2 + 1, none⟩) HBG.out _⟩
      case measure => rw [HWR.out]; have := HL.out; simp [intOf]; omega
    · obtain rfl : k = es.length := by omega
      have HA := Lib.hid ha
      have HG := Lib.hid hg
      have HB := Lib.hid hb
      have HX := Lib.hid hX
      clear ha hg hb hX hlt hk
      go_wp2_with fail
      go_loopw [6, 9] (fun v6 i wq => ∃ (k : Nat) (X : List S23), k ≤ 9 ∧ i = .int .i64 (k : Nat) ∧ X.length = es.length + k ∧ Al B fq wq t g j v room safe ver T txt (.slice Au es.length cu) es ∧ Rt wq W.heap.size v6 X ∧ (∀ k, fq k → v6.ownBlock = some k → False) ∧ Below W.heap.size w5 wq) (fun _ i _ => 9 - (intOf i).toNat)
      case atStart => exact ⟨0, _, Nat.zero_le _, rfl, HX.out, HA.out, HG.out, HQ.out.2.1, HB.out⟩
      case round =>
        obtain ⟨k, X, hk, rfl, hX, ha, hg, hno, hb⟩ := hrel
        clear HA HG HB HX
        by_cases hlt : k < 9
        · have hix : (k : Int) < 9 := by omega
          obtain ⟨A6, c6, rfl⟩ := Kd.R_slice hg
          obtain ⟨v', w7, hrun, hr7, hb7, hg7, hat⟩ := app23 _ W.heap.size _ X 98 ⟨#[109, 111, 114, 101]⟩ hg (Nat.le_trans (Nat.le_trans HB5.out.size hb.size) (Nat.le_refl _)) (by have := HN.out; omega)
          have HREL := Lib.hid (show X.length + 1 = es.length + (k + 1) ∧ Al B fq w7 t g j v room safe ver T txt (.slice Au es.length cu) es ∧ (∀ k, fq k → v'.ownBlock = some k → False) ∧ Below W.heap.size w5 w7 from ⟨by omega, ha.move (fun i hi hlt => hg7.block i hlt (fun e => hno i hi e.symm)), fun i hi e => by
            rcases hat with ⟨g1, n1, c1, e1, e2⟩ | ⟨_, b, e1, e2⟩
            · refine hno i hi ?_
              rw [e1]; rw [e2] at e; exact e
            · rw [e] at e1
              injection e1 with e1
              have := HQ.out.2.2 i hi
              have := hb.size
              omega, hb.trans hb7⟩)
          have RUN := Lib.hid hrun
          have HR7 := Lib.hid hr7
          have HL := Lib.hid hlt
          clear hrun hr7 hb7 hg7 hat ha hg hno hb hX hlt hk
          go_wp2_with (first | ((with_reducible refine gate_builtin (b := .append) (xs := #[.tmp 87, .tmp 89]) rfl ?_); at_builtin; refine list_append_run rfl (.tmp 87) (.tmp 89) 28 rfl rfl rfl RUN.out ?_))
          go_roundw
          case rel => exact ⟨k + 1, _, HL.out, by go_num, by simp [HREL.out.1], HREL.out.2.1, HR7.out, HREL.out.2.2.1, HREL.out.2.2.2⟩
          case measure => have := HL.out; simp [intOf]; omega
        · obtain rfl : k = 9 := by omega
          have HA := Lib.hid ha
          have HB := Lib.hid hb
          clear ha hg hno hb hX hlt hk
          go_wp2_with (first | (go_at_call 42; refine (looks_calls (Aq.start HA.out)).mono ?_; rintro e w9 ⟨rfl, hq⟩; have HQ9 := Lib.hid hq; clear hq))
          go_ret
          refine ⟨rfl, fq, .inr ⟨_, _, _, _, _, _, _, _, _, _, HQ9.out.a⟩, HQ.out.1, (HK5.out.then_ (kept_below2b HB.out) (fun k h => .inr (h.resolve_left id))).then_ HQ9.out.k (fun k hk => HQ.out.1 k hk), (HB5.out.trans (HB.out.mono HBW.out)).trans HQ9.out.b⟩
theorem open_calls (hb : W.heap[t]? = some (.cells #[.pointer (some ⟨g, 0, none⟩), jp, .string T, .int .i64 room, .int .i64 safe, Lp] 82 (0, 0))) (hd : Dk W B g v room safe T) (ht : B ≤ t) (hft : f t) (hfd : ∀ k, foot g v k → f k) (h0 : 0 ≤ room) (h1 : (T.size : Int) ≤ room) (h2 : room ≤ 1048576) :
    Calls Try.prog 61 #[.pointer (some ⟨t, 0, none⟩)] W fun e W' => e = .returned (.bool true) ∧ TQ B f W t W' := by
  obtain ⟨es, n, hR, hJ, hn⟩ := reads_two T (by omega)
  by_cases hc : n = (T.size : Int)
  · subst hc
    exact open_full hb hd ht hft hfd h0 h1 h2 es (hR _ (Nat.le_refl _)) (hJ _ (Nat.le_refl _)) hn
  · exact open_torn hb hd ht hft hfd es n (hR _ (Nat.le_refl _)) (hJ _ (Nat.le_refl _)) hc
end
end Go.Proofs.Ytcoodlncjnekoaa.F
