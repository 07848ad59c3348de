import Derived.Test.YteefneemmdfncaaDoorWi
/- why.by, walked: the reason that a rule is. Conditions: the policy reads as it must; its lists are bounded; the rule is there. -/
namespace Go.Proofs.YteefneemmdfncaaDoor.M
open Go.RowKit Go.Proofs.YteefneemmdfncaaDoorW.Raw Go.Proofs.YteefneemmdfncaaDoorW.PrintWords Go.Proofs.YteefneemmdfncaaDoorW.PrintLast Go.Proofs.YteefneemmdfncaaDoorW.PrintAll Go.Proofs.YteefneemmdfncaaDoor.F
set_option linter.unusedVariables false
set_option linter.unusedSimpArgs false
/-- A reason whose ways lie in blocks from B on. -/
def RsV (B : Nat) (x : Rsn) (v : Value) (W : World) : Prop := ∃ v6 v7, v = .agg #[.int .i8 x.f0, .int .i64 x.f1, v6, v7] ∧ SsR B x.f2 v6 W ∧ SsR B x.f3 v7 W
theorem RsV.mono {B : Nat} {x : Rsn} {v : Value} {W W' : World} (h : RsV B x v W) (hb : Below W.heap.size W W') : RsV B x v W' := by
  obtain ⟨v6, v7, e, h6, h7⟩ := h
  exact ⟨v6, v7, e, h6.mono hb, h7.mono hb⟩
theorem RsV.low {B B' : Nat} {x : Rsn} {v : Value} {W : World} (h : RsV B x v W) (hb : B' ≤ B) : RsV B' x v W := by
  obtain ⟨v6, v7, e, h6, h7⟩ := h
  exact ⟨v6, v7, e, Kd.R_lower h6 hb, Kd.R_lower h7 hb⟩
theorem RsV.K {B : Nat} {x : Rsn} {v : Value} {W : World} (h : RsV B x v W) : ∃ C : Array Value, v = .agg C ∧ k33.K W x C.toList := by
  obtain ⟨v6, v7, rfl, h6, h7⟩ := h
  obtain ⟨A6, c6, rfl, l6, k6⟩ := h6.open
  obtain ⟨A7, c7, rfl, l7, k7⟩ := h7.open
  exact ⟨_, rfl, k33_mk W x l6 k6 l7 k7⟩
theorem RsV.nil (B : Nat) (a n : Int) (W : World) : RsV B (⟨a, n, [], []⟩ : Rsn) (.agg #[.int .i8 a, .int .i64 n, .slice none 0 0, .slice none 0 0]) W :=
  ⟨_, _, rfl, Kd.R_nil _ _ _ _ _, Kd.R_nil _ _ _ _ _⟩
/-- A rule's cells, in each later world. -/
theorem rule_at {w : World} {A : Option Addr} {n : Nat} {l : List Rule} {i : Nat} {u : Rule} (h : Kd.C k48 w A n l) (hn : n = l.length) (hu : l[i]? = some u) : ∃ ad A3 c3, A = some ad ∧ u.f3.length ≤ c3 ∧ Kd.C Kd.string w A3 u.f3.length u.f3 ∧ ∀ W, Below w.heap.size w W → W.cell? (ad.add (i * 6)) = some (.bool u.f0) ∧ W.cell? ⟨(ad.add (i * 6)).block, (ad.add (i * 6)).off + 1, none⟩ = some (.string u.f1) ∧ W.cell? ⟨(ad.add (i * 6)).block, (ad.add (i * 6)).off + 2, none⟩ = some (.string u.f2) ∧ W.cell? ⟨(ad.add (i * 6)).block, (ad.add (i * 6)).off + 3, none⟩ = some (.slice A3 u.f3.length c3) ∧ W.cell? ⟨(ad.add (i * 6)).block, (ad.add (i * 6)).off + 4, none⟩ = some (.int .i8 u.f4) ∧ W.cell? ⟨(ad.add (i * 6)).block, (ad.add (i * 6)).off + 5, none⟩ = some (.float .f64 u.f5) := by
  subst hn
  have hlt := (List.getElem?_eq_some_iff.1 hu).1
  obtain ⟨ad, A3, c3, rfl, e0, e1, e2, e3, e4, e5, l3, g3⟩ := at_T48 h (i : Int) (by omega) (by omega)
  have hrd : rd_T48 l (i : Int) = u := by rw [rdRule hlt]; exact (List.getElem?_eq_some_iff.1 hu).2
  rw [hrd] at e0 e1 e2 e3 e4 e5 l3 g3
  simp only [Int.toNat_natCast] at e0 e1 e2 e3 e4 e5
  have key : ∀ {W : World} {a : Addr} {v : Value}, Below w.heap.size w W → w.cell? a = some v → W.cell? a = some v := fun hW e => (hW.cell (World.block_lt_of_cell? w _ e)).trans e
  exact ⟨ad, A3, c3, rfl, l3, g3, fun W hW => ⟨key hW e0, key hW e1, key hW e2, key hW e3, key hW e4, key hW e5⟩⟩
theorem fz_cell {w : World} {g : Nat} {cs : Array Value} {t : TypeId} (h : w.heap[g]? = some (.cells cs t (0, 0))) (i : Nat) : w.frozen? ⟨g, i, none⟩ = false := by
  unfold World.frozen?
  rw [h]
  simp
theorem by_far {w3 W5 W5' W6 : World} {b9 : Nat} (hg : w3.heap.size = b9) (h5 : Below w3.heap.size w3 W5) (h1 : Below W5.heap.size W5 W5') (h2 : Below b9 W5' W6) : Below w3.heap.size w3 W6 :=
  (h5.trans (h1.mono h5.size)).trans (h2.mono (Nat.le_of_eq hg))
theorem by_lt {w3 W5 : World} {b8 b9 t : Nat} {cs : Array Value} (hg : w3.heap.size = b9) (hl : b9 < W5.heap.size) (h8 : w3.heap[b8]? = some (.cells cs t (0, 0))) : b8 < W5.heap.size := by
  have := blk_lt h8
  omega
theorem by_one {W : World} {B : Nat} {l m : List ByteArray} {v6 v7 : Value} {a b : Int} {k1 k2 : IntKind} (h6 : SsR B l v6 W) (h7 : SsR B m v7 W) : ∀ q ∈ (#[Value.int k1 a, .int k2 b, v6, v7] : Array Value).toList, q.oneCell' = true := by
  obtain ⟨A6, c6, rfl, _⟩ := h6.open
  obtain ⟨A7, c7, rfl, _⟩ := h7.open
  simp [Value.oneCell']
set_option maxRecDepth 100000 in
set_option maxHeartbeats 4000000 in
theorem by_calls (p : Pol) (C0 : Array Value) (t : Tri) (i : Nat) (u : Rule) (w : World) (hk : k28.K w p C0.toList) (hu : p.f9[i]? = some u) (hz : Sz p) :
    Calls Tryd.prog 52 #[.agg C0, .agg #[.string t.f0, .string t.f1, .string t.f2], .int .i64 (i : Nat), .bool u.f0] w fun e w' => ∃ v, e = .returned v ∧ RsV w.heap.size (byL p t i u) v w' ∧ Below w.heap.size w w' := by
  have HK := Lib.hid hk
  have HZ := Lib.hid hz
  have hlt := (List.getElem?_eq_some_iff.1 hu).1
  have hl9 := hz.l9
  have hiw : wrap64 ((i : Int) + 1) = ((i + 1 : Nat) : Int) := by unfold wrap64; omega
  have hi0 : (0 : Int) ≤ (i : Int) := by omega
  have hi1 : (i : Int) < (p.f9.length : Int) := by omega
  obtain ⟨A0, c0, A1, c1, A2, c2, A3, c3, A4, c4, A5, c5, A6, c6, A7, c7, A8, c8, A9, c9, A10, c10, e_, l0, g0, l1, g1, l2, g2, l3, g3, l4, g4, l5, g5, l6, g6, l7, g7, l8, g8, l9, g9, l10, g10⟩ := k28_open hk
  obtain rfl : C0 = #[.slice A0 p.f0.length c0, .slice A1 p.f1.length c1, .slice A2 p.f2.length c2, .slice A3 p.f3.length c3, .slice A4 p.f4.length c4, .slice A5 p.f5.length c5, .slice A6 p.f6.length c6, .slice A7 p.f7.length c7, .slice A8 p.f8.length c8, .slice A9 p.f9.length c9, .slice A10 p.f10.length c10] := by cases C0; simpa using e_
  clear e_
  obtain ⟨ad, A3', c3', rfl, _, _, hel⟩ := rule_at g9 rfl hu
  have HEL := Lib.hid hel
  obtain ⟨d, hd⟩ : ∃ d, d = u.f0 := ⟨_, rfl⟩
  have HD := Lib.hid hd
  have hpl1 : (p.f5 ++ p.f6).length ≤ 4194304 := by have := hz.l5; have := hz.l6; rw [List.length_append]; omega
  have hpl2 : (p.f7 ++ p.f8).length ≤ 4194304 := by have := hz.l7; have := hz.l8; rw [List.length_append]; omega
  have HP := Lib.hid (And.intro hpl1 hpl2)
  obtain ⟨C, hC⟩ : ∃ C : Array Value, C = #[.slice A0 p.f0.length c0, .slice A1 p.f1.length c1, .slice A2 p.f2.length c2, .slice A3 p.f3.length c3, .slice A4 p.f4.length c4, .slice A5 p.f5.length c5, .slice A6 p.f6.length c6, .slice A7 p.f7.length c7, .slice A8 p.f8.length c8, .slice (some ad) p.f9.length c9, .slice A10 p.f10.length c10] := ⟨_, rfl⟩
  rw [← hC] at HK ⊢
  have HC9 := Lib.hid (show C[9]? = some (.slice (some ad) p.f9.length c9) by rw [hC]; rfl)
  rw [← hd]
  clear hk hC hel hd hu hlt hl9 hz hpl1 hpl2 l0 g0 l1 g1 l2 g2 l3 g3 l4 g4 l5 g5 l6 g6 l7 g7 l8 g8 l9 g9 l10 g10
  go_enter Tryd.func52, Tryd.ntmps52
  cases d with
  | false =>
    go_upto_region 4 with (first
      | ((with_reducible refine gate_dst (N := 4) rfl ?_); refine box_event ?hg (N := 4) ?hd (cs := C) (t := 28) ?hr ?_; (case hd => rfl); (case hg => rfl); (case hr => first | (go_simp; done) | (go_simp; rfl)); intro b4 hg_ w1 hb4 hB1; clear hg_; have BW1 := Lib.hid hB1; have K4 := Lib.hid hb4; clear hb4 hB1)
      | ((with_reducible refine gate_dst (N := 5) rfl ?_); refine box_event ?hg (N := 5) ?hd (cs := #[.string t.f0, .string t.f1, .string t.f2]) (t := 30) ?hr ?_; (case hd => rfl); (case hg => rfl); (case hr => first | (go_simp; done) | (go_simp; rfl)); intro b5 hg_ w2 hb5 hB2; clear hg_; have K42 := Lib.hid (blk_below K4.out hB2); have BW2 := Lib.hid (BW1.out.trans (hB2.mono BW1.out.size)); have K5 := Lib.hid hb5; clear hb5 hB2)
      | ((with_reducible refine gate_dst (N := 8) rfl ?_); refine box_event ?hg (N := 8) ?hd (cs := #[.int .i8 0, .int .i64 0, .slice none 0 0, .slice none 0 0]) (t := 33) ?hr ?_; (case hd => rfl); (case hg => rfl); (case hr => first | (go_simp; done) | (go_simp; rfl)); intro b8 hg_ w3 hb8 hB3; have HG8 := Lib.hid (show w.heap.size ≤ b8 by rw [hg_]; exact BW2.out.size); clear hg_; have K43 := Lib.hid (blk_below K42.out hB3); have K53 := Lib.hid (blk_below K5.out hB3); have BW3 := Lib.hid (BW2.out.trans (hB3.mono BW2.out.size)); have K8 := Lib.hid hb8; clear hb8 hB3)
      | ((with_reducible refine gate_dst (N := 9) rfl ?_); refine box_event ?hg (N := 9) ?hd (cs := #[.int .i8 0, .int .i64 0, .slice none 0 0, .slice none 0 0]) (t := 33) ?hr ?_; (case hd => rfl); (case hg => rfl); (case hr => first | (go_simp; done) | (go_simp; rfl)); intro b9 hg_ w4 hb9 hB4; have HG9 := Lib.hid (show w3.heap.size = b9 from hg_.symm); clear hg_; have K44 := Lib.hid (blk_below K43.out hB4); have K54 := Lib.hid (blk_below K53.out hB4); have K84 := Lib.hid (blk_below K8.out hB4); have BW4' := Lib.hid hB4; have K9 := Lib.hid hb9; clear hb9 hB4)
      | ((with_reducible refine gate_ (.store 33 (.tmp 9) (.tmp 12)) rfl ?_); go_must (refine bstore (t := 33) (p := 9) (v := .tmp 12) rfl rfl rfl b9 _ #[.int .i8 4, .int .i64 ((i : Int) + 1), .slice none 0 0, .slice none 0 0] (.agg #[.int .i8 4, .int .i64 ((i : Int) + 1), .slice none 0 0, .slice none 0 0]) rfl rfl rfl K9.out (by kernel_rfl) rfl (by simp [Value.oneCell']) ?_); intro w5 hb4 hs4 hz4 hB4; have K95 := Lib.hid hb4; have BW5 := Lib.hid (hB4 _ (Nat.le_of_eq HG9.out)); have z0 := (blk_cell hb4 0).trans (Eq.refl (some (Value.int .i8 4))); have zf := fz_cell hb4 0; clear hb4 hs4 hz4 hB4))
    obtain ⟨W5, hW5⟩ : ∃ x, x = w5 := ⟨_, rfl⟩
    have k9 : W5.heap[b9]? = some (.cells #[.int .i8 4, .int .i64 ((i : Int) + 1), .slice none 0 0, .slice none 0 0] 33 (0, 0)) := by rw [hW5]; exact K95.out
    have bw5 : Below w3.heap.size w3 W5 := by rw [hW5]; exact (BW4'.out).trans (BW5.out.mono (Nat.le_refl _))
    rw [← hW5]
    have HK9 := Lib.hid k9
    have HB5 := Lib.hid bw5
    clear hW5 k9 bw5 z0 zf
    have HL9 := Lib.hid (blk_lt HK9.out)
    refine by4.region W5.heap.size p t u C ad c9 i b4 b5 b9 (k28.K_below (BW3.out.trans (HB5.out.mono BW3.out.size)) HK.out) (by have := HZ.out.l5; have := HZ.out.l6; omega) HP.out.1 (Nat.le_refl _) HL9.out HC9.out hi0 hi1 (fun W hW => ((HEL.out W ((BW3.out.trans (HB5.out.mono BW3.out.size)).trans (hW.mono (Nat.le_trans BW3.out.size HB5.out.size)))).2.1)) (by kernel_rfl) rfl rfl (blk_below K43.out HB5.out) rfl (blk_below K53.out HB5.out) rfl HK9.out rfl ?_
    rintro xs W6 ⟨W5', v6, g1, g2, g3, g4, g5⟩
    simp only [putZ, Act.put, List.setIfInBounds_toArray, List.set_cons_zero, List.set_cons_succ, Nat.reduceAdd]
    have HB6 := Lib.hid (by_far HG9.out HB5.out g1 (g4 _ (Nat.le_refl _)))
    have HS6 := Lib.hid g2
    have HK6 := Lib.hid g3
    have HZ6 := Lib.hid (show W5.heap.size ≤ W6.heap.size from Nat.le_trans g1.size (g4 _ (Nat.le_refl _)).size)
    clear g1 g2 g3 g4 g5
    go_wp2_with fail
    refine by5.region W5.heap.size p t u C ad c9 i b4 b5 b9 (k28.K_below (BW3.out.trans (HB6.out.mono BW3.out.size)) HK.out) (by have := HZ.out.l7; have := HZ.out.l8; omega) HP.out.2 HZ6.out HL9.out HC9.out hi0 hi1 (fun W hW => ((HEL.out W ((BW3.out.trans (HB6.out.mono BW3.out.size)).trans (hW.mono (Nat.le_trans BW3.out.size HB6.out.size)))).2.2.1)) (by kernel_rfl) rfl rfl (blk_below K43.out HB6.out) rfl (blk_below K53.out HB6.out) rfl HK6.out rfl ?_
    rintro ys W7 ⟨W6', v7, g1, g2, g3, g4, g5⟩
    simp only [putZ, Act.put, List.setIfInBounds_toArray, List.set_cons_zero, List.set_cons_succ, Nat.reduceAdd]
    have HB7 := Lib.hid (by_far HG9.out HB6.out g1 (g4 _ (Nat.le_refl _)))
    have HS7 := Lib.hid (SsR.away (HS6.out.mono g1) HL9.out g5)
    have HT7 := Lib.hid g2
    have HK7 := Lib.hid g3
    clear g1 g2 g3 g4 g5
    have HK8 := Lib.hid (blk_below K8.out HB7.out)
    go_wp2_with (first
      | ((with_reducible refine gate_ (.load 33 (.tmp 9)) rfl ?_); go_must (refine wpList_load_row rfl 33 (.tmp 9) rfl b9 rfl _ _ _ _ HK7.out Tryd.underlying33 rfl (by kernel_rfl) ?_))
      | ((with_reducible refine gate_ (.store 33 (.tmp 8) (.tmp 39)) rfl ?_); go_must (refine bstore (t := 33) (p := 8) (v := .tmp 39) rfl rfl rfl b8 _ #[.int .i8 4, .int .i64 ((i : Int) + 1), v6, v7] (.agg #[.int .i8 4, .int .i64 ((i : Int) + 1), v6, v7]) rfl rfl rfl HK8.out (by kernel_rfl) rfl ?hone ?_); (case hone => exact by_one HS7.out HT7.out); intro w9 hb4 hs4 hz4 hB4; have HF := Lib.hid hb4; have HR := Lib.hid (And.intro (SsR.away HS7.out (by_lt HG9.out HL9.out K8.out) hs4) (SsR.away HT7.out (by_lt HG9.out HL9.out K8.out) hs4)); have HBW := Lib.hid ((BW3.out.trans (HB7.out.mono BW3.out.size)).trans (hB4 _ HG8.out)); clear hb4 hs4 hz4 hB4))
    refine bodyPost_ret (results_cell_row rfl _ _ b8 33 #[.int .i8 4, .int .i64 ((i : Int) + 1), v6, v7] (0, 0) _ rfl HF.out Tryd.underlying33 rfl (by kernel_rfl)) rfl ?_
    refine ⟨_, rfl, ⟨v6, v7, ?_, Kd.R_lower HR.out.1 (Nat.le_trans BW3.out.size HB5.out.size), Kd.R_lower HR.out.2 (Nat.le_trans BW3.out.size HB5.out.size)⟩, HBW.out⟩
    unfold byL
    rw [← HD.out]
    rfl
  | true =>
    go_upto_region 4 with (first
      | ((with_reducible refine gate_dst (N := 4) rfl ?_); refine box_event ?hg (N := 4) ?hd (cs := C) (t := 28) ?hr ?_; (case hd => rfl); (case hg => rfl); (case hr => first | (go_simp; done) | (go_simp; rfl)); intro b4 hg_ w1 hb4 hB1; clear hg_; have BW1 := Lib.hid hB1; have K4 := Lib.hid hb4; clear hb4 hB1)
      | ((with_reducible refine gate_dst (N := 5) rfl ?_); refine box_event ?hg (N := 5) ?hd (cs := #[.string t.f0, .string t.f1, .string t.f2]) (t := 30) ?hr ?_; (case hd => rfl); (case hg => rfl); (case hr => first | (go_simp; done) | (go_simp; rfl)); intro b5 hg_ w2 hb5 hB2; clear hg_; have K42 := Lib.hid (blk_below K4.out hB2); have BW2 := Lib.hid (BW1.out.trans (hB2.mono BW1.out.size)); have K5 := Lib.hid hb5; clear hb5 hB2)
      | ((with_reducible refine gate_dst (N := 8) rfl ?_); refine box_event ?hg (N := 8) ?hd (cs := #[.int .i8 0, .int .i64 0, .slice none 0 0, .slice none 0 0]) (t := 33) ?hr ?_; (case hd => rfl); (case hg => rfl); (case hr => first | (go_simp; done) | (go_simp; rfl)); intro b8 hg_ w3 hb8 hB3; have HG8 := Lib.hid (show w.heap.size ≤ b8 by rw [hg_]; exact BW2.out.size); clear hg_; have K43 := Lib.hid (blk_below K42.out hB3); have K53 := Lib.hid (blk_below K5.out hB3); have BW3 := Lib.hid (BW2.out.trans (hB3.mono BW2.out.size)); have K8 := Lib.hid hb8; clear hb8 hB3)
      | ((with_reducible refine gate_dst (N := 9) rfl ?_); refine box_event ?hg (N := 9) ?hd (cs := #[.int .i8 0, .int .i64 0, .slice none 0 0, .slice none 0 0]) (t := 33) ?hr ?_; (case hd => rfl); (case hg => rfl); (case hr => first | (go_simp; done) | (go_simp; rfl)); intro b9 hg_ w4 hb9 hB4; have HG9 := Lib.hid (show w3.heap.size = b9 from hg_.symm); clear hg_; have K44 := Lib.hid (blk_below K43.out hB4); have K54 := Lib.hid (blk_below K53.out hB4); have K84 := Lib.hid (blk_below K8.out hB4); have BW4' := Lib.hid hB4; have K9 := Lib.hid hb9; clear hb9 hB4)
      | ((with_reducible refine gate_ (.store 33 (.tmp 9) (.tmp 12)) rfl ?_); go_must (refine bstore (t := 33) (p := 9) (v := .tmp 12) rfl rfl rfl b9 _ #[.int .i8 4, .int .i64 ((i : Int) + 1), .slice none 0 0, .slice none 0 0] (.agg #[.int .i8 4, .int .i64 ((i : Int) + 1), .slice none 0 0, .slice none 0 0]) rfl rfl rfl K9.out (by kernel_rfl) rfl (by simp [Value.oneCell']) ?_); intro w5 hb4 hs4 hz4 hB4; have K95 := Lib.hid hb4; have BW5 := Lib.hid (hB4 _ (Nat.le_of_eq HG9.out)); have z0 := (blk_cell hb4 0).trans (Eq.refl (some (Value.int .i8 4))); have zf := fz_cell hb4 0; clear hb4 hs4 hz4 hB4))
    obtain ⟨W5, hW5⟩ : ∃ x, x = w5.setCell ⟨b9, 0, none⟩ (.int .i8 3) := ⟨_, rfl⟩
    have k9 : W5.heap[b9]? = some (.cells #[.int .i8 3, .int .i64 ((i : Int) + 1), .slice none 0 0, .slice none 0 0] 33 (0, 0)) := by rw [hW5]; exact blk_put K95.out 0 (.int .i8 3) rfl
    have bw5 : Below w3.heap.size w3 W5 := by rw [hW5]; exact (BW4'.out.trans BW5.out).setCell (p := ⟨b9, 0, none⟩) (Nat.le_of_eq HG9.out) _
    rw [← hW5]
    have HK9 := Lib.hid k9
    have HB5 := Lib.hid bw5
    clear hW5 k9 bw5 z0 zf
    have HL9 := Lib.hid (blk_lt HK9.out)
    refine by4.region W5.heap.size p t u C ad c9 i b4 b5 b9 (k28.K_below (BW3.out.trans (HB5.out.mono BW3.out.size)) HK.out) (by have := HZ.out.l5; have := HZ.out.l6; omega) HP.out.1 (Nat.le_refl _) HL9.out HC9.out hi0 hi1 (fun W hW => ((HEL.out W ((BW3.out.trans (HB5.out.mono BW3.out.size)).trans (hW.mono (Nat.le_trans BW3.out.size HB5.out.size)))).2.1)) (by kernel_rfl) rfl rfl (blk_below K43.out HB5.out) rfl (blk_below K53.out HB5.out) rfl HK9.out rfl ?_
    rintro xs W6 ⟨W5', v6, g1, g2, g3, g4, g5⟩
    simp only [putZ, Act.put, List.setIfInBounds_toArray, List.set_cons_zero, List.set_cons_succ, Nat.reduceAdd]
    have HB6 := Lib.hid (by_far HG9.out HB5.out g1 (g4 _ (Nat.le_refl _)))
    have HS6 := Lib.hid g2
    have HK6 := Lib.hid g3
    have HZ6 := Lib.hid (show W5.heap.size ≤ W6.heap.size from Nat.le_trans g1.size (g4 _ (Nat.le_refl _)).size)
    clear g1 g2 g3 g4 g5
    go_wp2_with fail
    refine by5.region W5.heap.size p t u C ad c9 i b4 b5 b9 (k28.K_below (BW3.out.trans (HB6.out.mono BW3.out.size)) HK.out) (by have := HZ.out.l7; have := HZ.out.l8; omega) HP.out.2 HZ6.out HL9.out HC9.out hi0 hi1 (fun W hW => ((HEL.out W ((BW3.out.trans (HB6.out.mono BW3.out.size)).trans (hW.mono (Nat.le_trans BW3.out.size HB6.out.size)))).2.2.1)) (by kernel_rfl) rfl rfl (blk_below K43.out HB6.out) rfl (blk_below K53.out HB6.out) rfl HK6.out rfl ?_
    rintro ys W7 ⟨W6', v7, g1, g2, g3, g4, g5⟩
    simp only [putZ, Act.put, List.setIfInBounds_toArray, List.set_cons_zero, List.set_cons_succ, Nat.reduceAdd]
    have HB7 := Lib.hid (by_far HG9.out HB6.out g1 (g4 _ (Nat.le_refl _)))
    have HS7 := Lib.hid (SsR.away (HS6.out.mono g1) HL9.out g5)
    have HT7 := Lib.hid g2
    have HK7 := Lib.hid g3
    clear g1 g2 g3 g4 g5
    have HK8 := Lib.hid (blk_below K8.out HB7.out)
    go_wp2_with (first
      | ((with_reducible refine gate_ (.load 33 (.tmp 9)) rfl ?_); go_must (refine wpList_load_row rfl 33 (.tmp 9) rfl b9 rfl _ _ _ _ HK7.out Tryd.underlying33 rfl (by kernel_rfl) ?_))
      | ((with_reducible refine gate_ (.store 33 (.tmp 8) (.tmp 39)) rfl ?_); go_must (refine bstore (t := 33) (p := 8) (v := .tmp 39) rfl rfl rfl b8 _ #[.int .i8 3, .int .i64 ((i : Int) + 1), v6, v7] (.agg #[.int .i8 3, .int .i64 ((i : Int) + 1), v6, v7]) rfl rfl rfl HK8.out (by kernel_rfl) rfl ?hone ?_); (case hone => exact by_one HS7.out HT7.out); intro w9 hb4 hs4 hz4 hB4; have HF := Lib.hid hb4; have HR := Lib.hid (And.intro (SsR.away HS7.out (by_lt HG9.out HL9.out K8.out) hs4) (SsR.away HT7.out (by_lt HG9.out HL9.out K8.out) hs4)); have HBW := Lib.hid ((BW3.out.trans (HB7.out.mono BW3.out.size)).trans (hB4 _ HG8.out)); clear hb4 hs4 hz4 hB4))
    refine bodyPost_ret (results_cell_row rfl _ _ b8 33 #[.int .i8 3, .int .i64 ((i : Int) + 1), v6, v7] (0, 0) _ rfl HF.out Tryd.underlying33 rfl (by kernel_rfl)) rfl ?_
    refine ⟨_, rfl, ⟨v6, v7, ?_, Kd.R_lower HR.out.1 (Nat.le_trans BW3.out.size HB5.out.size), Kd.R_lower HR.out.2 (Nat.le_trans BW3.out.size HB5.out.size)⟩, HBW.out⟩
    unfold byL
    rw [← HD.out]
    rfl
end Go.Proofs.YteefneemmdfncaaDoor.M
