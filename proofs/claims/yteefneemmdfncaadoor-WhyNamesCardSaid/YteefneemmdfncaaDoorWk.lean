import Derived.Test.YteefneemmdfncaaDoorWj
import Derived.Test.YteefneemmdfncaaDoorWc
/- why.Holds' closure; slices.IndexFunc and ContainsFunc of it: does any rule match? Conditions: each theorem's own. -/
namespace Go.Proofs.YteefneemmdfncaaDoor.M
open Go.RowKit Go.Proofs.YteefneemmdfncaaDoorW.Raw Go.Proofs.YteefneemmdfncaaDoorW.PrintWords Go.Proofs.YteefneemmdfncaaDoor.F
set_option linter.unusedVariables false
set_option linter.unusedSimpArgs false
attribute [local go_sem] run_store_float
set_option maxRecDepth 100000 in
set_option maxHeartbeats 2000000 in
theorem hold1_calls (p : Pol) (C : Array Value) (t : Tri) (u : Rule) (A3 : Option Addr) (c3 : Nat) (b3 b4 : Nat) (w : World) (hb3 : w.heap[b3]? = some (.cells C 28 (0, 0))) (hb4 : w.heap[b4]? = some (.cells #[.string t.f0, .string t.f1, .string t.f2] 30 (0, 0))) (hk : k28.K w p C.toList) (l3 : u.f3.length ≤ c3) (g3 : Kd.C Kd.string w A3 u.f3.length u.f3) (hn : OkP p) :
    Calls Tryd.prog 57 #[.agg #[.bool u.f0, .string u.f1, .string u.f2, .slice A3 u.f3.length c3, .int .i8 u.f4, .float .f64 u.f5], .pointer (some ⟨b3, 0, none⟩), .pointer (some ⟨b4, 0, none⟩)] w fun e w' => e = .returned (.bool (matchB p u t)) ∧ Below w.heap.size w w' := by
  have HK := Lib.hid hk
  have HSP := Lib.hid (pol_size hk)
  have H3 := Lib.hid hb3
  have H4 := Lib.hid hb4
  have L3 := Lib.hid l3
  have G3 := Lib.hid g3
  clear hk hb3 hb4 l3 g3
  go_enter Tryd.func57, Tryd.ntmps57
  go_wp2_with (first
    | ((with_reducible refine gate_dst (N := 3) rfl ?_); refine box_event ?hg (N := 3) ?hd (cs := #[.bool u.f0, .string u.f1, .string u.f2, .slice A3 u.f3.length c3, .int .i8 u.f4, .float .f64 u.f5]) (t := 48) ?hr ?_; (case hd => rfl); (case hg => rfl); (case hr => first | (go_simp; done) | (go_simp; rfl)); intro b5 hg_ w1 hbx hBx; have HB1 := Lib.hid hBx; have K5 := Lib.hid hbx; clear hg_ hbx hBx)
    | ((with_reducible refine gate_ (.load 28 (.tmp 1)) rfl ?_); go_must (refine wpList_load_row rfl 28 (.tmp 1) rfl b3 rfl _ _ _ _ (blk_below H3.out HB1.out) Tryd.underlying28 rfl HSP.out ?_))
    | ((with_reducible refine gate_ (.load 48 (.tmp 3)) rfl ?_); go_must (refine wpList_load_row rfl 48 (.tmp 3) rfl b5 rfl _ _ _ _ K5.out Tryd.underlying48 rfl (by kernel_rfl) ?_))
    | ((with_reducible refine gate_ (.load 30 (.tmp 2)) rfl ?_); go_must (refine wpList_load_row rfl 30 (.tmp 2) rfl b4 rfl _ _ _ _ (blk_below H4.out HB1.out) Tryd.underlying30 rfl (by kernel_rfl) ?_))
    | (go_at_call 51; go_must (refine (matches_calls p C #[.bool u.f0, .string u.f1, .string u.f2, .slice A3 u.f3.length c3, .int .i8 u.f4, .float .f64 u.f5] u t _ (k28.K_below HB1.out HK.out) (k48_mk w1 u L3.out (Kd.C_below G3.out HB1.out)) hn).mono ?_); rintro e w7 ⟨rfl, hb⟩; have HB7 := Lib.hid (HB1.out.trans (hb.mono HB1.out.size)); clear hb))
  go_ret
  exact ⟨rfl, HB7.out⟩
set_option maxRecDepth 100000 in
set_option maxHeartbeats 4000000 in
theorem anyIx_calls (p : Pol) (C : Array Value) (t : Tri) (A9 : Option Addr) (c9 : Nat) (b3 b4 : Nat) (w : World) (hb3 : w.heap[b3]? = some (.cells C 28 (0, 0))) (hb4 : w.heap[b4]? = some (.cells #[.string t.f0, .string t.f1, .string t.f2] 30 (0, 0))) (hk : k28.K w p C.toList) (h9 : Kd.C k48 w A9 p.f9.length p.f9) (hn : OkP p) :
    Calls Tryd.prog 83 #[.slice A9 p.f9.length c9, .func (.func 57) #[] #[.pointer (some ⟨b3, 0, none⟩), .pointer (some ⟨b4, 0, none⟩)]] w fun e w' => Below w.heap.size w w' ∧ ∃ i : Int, e = .returned (.int .i64 i) ∧ decide (0 ≤ i) = p.f9.any fun u => matchB p u t := by
  have H9 := Lib.hid h9
  have H3 := Lib.hid hb3
  have H4 := Lib.hid hb4
  have HK := Lib.hid hk
  have hmx : p.f9.length ≤ 9223372036854775807 := h9.2.1
  clear hk hb3 hb4 h9
  go_enter Tryd.func83, Tryd.ntmps83
  go_wp2_with fail
  go_loopw [8] (fun i wr => ∃ k : Nat, k ≤ p.f9.length ∧ i = .int .i64 (k : Nat) ∧ Hid ((p.f9.take k).any (fun u => matchB p u t) = false) ∧ Hid (Below w.heap.size w wr)) (fun i _ => p.f9.length - (intOf i).toNat)
  case atStart => exact ⟨0, Nat.zero_le _, rfl, Lib.hid rfl, Lib.hid (Below.refl _ _)⟩
  case round =>
    obtain ⟨k, hk, rfl, HN, HB⟩ := hrel
    by_cases hlt : k < p.f9.length
    · obtain ⟨u, hu⟩ : ∃ u, p.f9[k]? = some u := ⟨_, List.getElem?_eq_getElem hlt⟩
      obtain ⟨ad, A3', c3', rfl, lu, gu, hel⟩ := rule_at H9.out rfl hu
      obtain ⟨e0, e1, e2, e3, e4, e5⟩ := hel wr HB.out
      have HKU := Lib.hid hu
      have HTK := Lib.hid (show p.f9.take (k + 1) = p.f9.take k ++ [u] by rw [List.take_add_one, hu]; rfl)
      have HC := Lib.hid (hold1_calls p C t u A3' c3' b3 b4 wr (blk_below H3.out HB.out) (blk_below H4.out HB.out) (k28.K_below HB.out HK.out) lu (Kd.C_below gu HB.out) hn)
      clear hu lu gu hel
      cases hq : matchB p u t with
      | true =>
        rw [hq] at HC
        have HQ := Lib.hid hq
        clear hq
        go_wp2_with (first | (go_at_call 57; go_must (refine HC.out.mono ?_); rintro e w2 ⟨rfl, hb⟩; have HB2 := Lib.hid (HB.out.trans (hb.mono HB.out.size)); clear hb e0 e1 e2 e3 e4 e5))
        go_ret
        refine ⟨HB2.out, (k : Int), rfl, ?_⟩
        rw [decide_eq_true (by omega : (0 : Int) ≤ (k : Int))]
        exact (List.any_eq_true.2 ⟨u, List.mem_of_getElem? HKU.out, HQ.out⟩).symm
      | false =>
        rw [hq] at HC
        have HQ := Lib.hid hq
        clear hq
        go_wp2_with (first | (go_at_call 57; go_must (refine HC.out.mono ?_); rintro e w2 ⟨rfl, hb⟩; have HB2 := Lib.hid (HB.out.trans (hb.mono HB.out.size)); clear hb e0 e1 e2 e3 e4 e5))
        go_roundw
        case rel => exact ⟨k + 1, hlt, by go_num, Lib.hid (by rw [HTK.out, List.any_append, HN.out]; simp [HQ.out]), HB2⟩
        case measure => simp [intOf]; omega
    · obtain rfl : k = p.f9.length := by omega
      go_wp2_with fail
      go_ret
      refine ⟨HB.out, -1, rfl, ?_⟩
      have h := HN.out
      rw [List.take_length] at h
      rw [h]
      decide
set_option maxRecDepth 100000 in
theorem anyCf_calls (p : Pol) (C : Array Value) (t : Tri) (A9 : Option Addr) (c9 : Nat) (b3 b4 : Nat) (w : World) (hb3 : w.heap[b3]? = some (.cells C 28 (0, 0))) (hb4 : w.heap[b4]? = some (.cells #[.string t.f0, .string t.f1, .string t.f2] 30 (0, 0))) (hk : k28.K w p C.toList) (h9 : Kd.C k48 w A9 p.f9.length p.f9) (hn : OkP p) :
    Calls Tryd.prog 56 #[.slice A9 p.f9.length c9, .func (.func 57) #[] #[.pointer (some ⟨b3, 0, none⟩), .pointer (some ⟨b4, 0, none⟩)]] w fun e w' => e = .returned (.bool (p.f9.any fun u => matchB p u t)) ∧ Below w.heap.size w w' := by
  have HI := Lib.hid (anyIx_calls p C t A9 c9 b3 b4 w hb3 hb4 hk h9 hn)
  clear hb3 hb4 hk h9
  go_enter Tryd.func56, Tryd.ntmps56
  go_wp2_with (first | (go_at_call 83; go_must (refine HI.out.mono ?_); rintro e w2 ⟨hb, i, rfl, hi⟩; have HD := Lib.hid hi; have HB := Lib.hid hb; clear hi hb))
  go_ret
  exact ⟨congrArg (fun z => Ending.returned (.bool z)) HD.out, HB.out⟩
end Go.Proofs.YteefneemmdfncaaDoor.M
/- why.Explain, walked. Conditions: the policy reads as it must; its lists are bounded. -/
namespace Go.Proofs.YteefneemmdfncaaDoor.M
open Go.RowKit Go.Proofs.YteefneemmdfncaaDoorW.Raw Go.Proofs.YteefneemmdfncaaDoorW.PrintWords Go.Proofs.YteefneemmdfncaaDoor.F
set_option linter.unusedVariables false
set_option linter.unusedSimpArgs false
attribute [local go_sem high] eqA30
attribute [local go_sem] run_store_float
theorem eqT_l (a b : Tri) : (a.f0.toList == b.f0.toList && (a.f1.toList == b.f1.toList && (a.f2.toList == b.f2.toList))) = eqT a b := by
  unfold eqT
  rw [tb', tb', tb', Bool.and_assoc]
theorem tri_at {w : World} {A : Option Addr} {n : Nat} {l : List Tri} {i : Nat} {u : Tri} (h : Kd.C k30 w A n l) (hn : n = l.length) (hu : l[i]? = some u) : ∃ ad, A = some ad ∧ ∀ W, Below w.heap.size w W → W.cell? (ad.add (i * 3)) = some (.string u.f0) ∧ W.cell? ⟨(ad.add (i * 3)).block, (ad.add (i * 3)).off + 1, none⟩ = some (.string u.f1) ∧ W.cell? ⟨(ad.add (i * 3)).block, (ad.add (i * 3)).off + 2, none⟩ = some (.string u.f2) := by
  subst hn
  have hlt := (List.getElem?_eq_some_iff.1 hu).1
  obtain ⟨ad, rfl, e0, e1, e2⟩ := at_T30 h (i : Int) (by omega) (by omega)
  have hrd : rd_T30 l (i : Int) = u := by rw [rdTri hlt]; exact (List.getElem?_eq_some_iff.1 hu).2
  rw [hrd] at e0 e1 e2
  simp only [Int.toNat_natCast] at e0 e1 e2
  have key : ∀ {W : World} {a : Addr} {v : Value}, Below w.heap.size w W → w.cell? a = some v → W.cell? a = some v := fun hW e => (hW.cell (World.block_lt_of_cell? w _ e)).trans e
  exact ⟨ad, rfl, fun W hW => ⟨key hW e0, key hW e1, key hW e2⟩⟩
set_option maxRecDepth 100000 in
set_option maxHeartbeats 4000000 in
theorem explain_unk (p : Pol) (C : Array Value) (t : Tri) (w : World) (hk : k28.K w p C.toList) (hq : knownB p t = false) :
    Calls Tryd.prog 21 #[.agg C, .agg #[.string t.f0, .string t.f1, .string t.f2]] w fun e w' => ∃ v, e = .returned v ∧ RsV w.heap.size (explL p t) v w' ∧ Below w.heap.size w w' := by
  have HK := Lib.hid hk
  have HSP := Lib.hid (pol_size hk)
  have HQ := Lib.hid hq
  clear hk hq
  go_enter Tryd.func21, Tryd.ntmps21
  go_wp2_with (first
    | ((with_reducible refine gate_dst (N := 2) rfl ?_); refine box_event ?hg (N := 2) ?hd (cs := C) (t := 28) ?hr ?_; (case hd => rfl); (case hg => rfl); (case hr => first | (go_simp; done) | (go_simp; rfl)); intro b2 hg_ w1 hb2 hB1; clear hg_; have BW1 := Lib.hid hB1; have K2 := Lib.hid hb2; clear hb2 hB1)
    | ((with_reducible refine gate_dst (N := 3) rfl ?_); refine box_event ?hg (N := 3) ?hd (cs := #[.string t.f0, .string t.f1, .string t.f2]) (t := 30) ?hr ?_; (case hd => rfl); (case hg => rfl); (case hr => first | (go_simp; done) | (go_simp; rfl)); intro b3 hg_ w2 hb3 hB2; clear hg_; have K22 := Lib.hid (blk_below K2.out hB2); have BW2 := Lib.hid (BW1.out.trans (hB2.mono BW1.out.size)); have K3 := Lib.hid hb3; clear hb3 hB2)
    | ((with_reducible refine gate_dst (N := 4) rfl ?_); refine box_event ?hg (N := 4) ?hd (cs := #[.int .i8 0, .int .i64 0, .slice none 0 0, .slice none 0 0]) (t := 33) ?hr ?_; (case hd => rfl); (case hg => rfl); (case hr => first | (go_simp; done) | (go_simp; rfl)); intro b4 hg_ w3 hb4 hB3; have HG4 := Lib.hid (show w.heap.size ≤ b4 by rw [hg_]; exact BW2.out.size); clear hg_; have KP := Lib.hid (blk_below K22.out hB3); have KT := Lib.hid (blk_below K3.out hB3); have BW3 := Lib.hid (BW2.out.trans (hB3.mono BW2.out.size)); have KR := Lib.hid hb4; clear hb4 hB3)
    | ((with_reducible refine gate_ (.load 28 (.tmp 2)) rfl ?_); go_must (refine wpList_load_row rfl 28 (.tmp 2) rfl b2 rfl _ _ _ _ KP.out Tryd.underlying28 rfl HSP.out ?_))
    | ((with_reducible refine gate_ (.load 30 (.tmp 3)) rfl ?_); go_must (refine wpList_load_row rfl 30 (.tmp 3) rfl b3 rfl _ _ _ _ KT.out Tryd.underlying30 rfl (by kernel_rfl) ?_))
    | (go_at_call 50; go_must (refine (known_calls p C t _ (k28.K_below BW3.out HK.out)).mono ?_); rw [HQ.out]; rintro e w4 ⟨rfl, hb⟩; have KR4 := Lib.hid (blk_below KR.out hb); have BW4 := Lib.hid (BW3.out.trans (hb.mono BW3.out.size)); clear hb)
    | ((with_reducible refine gate_ (.store 33 (.tmp 4) (.tmp 15)) rfl ?_); go_must (refine bstore (t := 33) (p := 4) (v := .tmp 15) rfl rfl rfl b4 _ #[.int .i8 1, .int .i64 0, .slice none 0 0, .slice none 0 0] (.agg #[.int .i8 1, .int .i64 0, .slice none 0 0, .slice none 0 0]) rfl rfl rfl KR4.out (by kernel_rfl) rfl (by simp [Value.oneCell']) ?_); intro w5 hb4 hs4 hz4 hB4; have HF := Lib.hid hb4; have HB := Lib.hid (BW4.out.trans (hB4 _ HG4.out)); clear hb4 hs4 hz4 hB4))
  refine bodyPost_ret (results_cell_row rfl _ _ b4 33 #[.int .i8 1, .int .i64 0, .slice none 0 0, .slice none 0 0] (0, 0) _ rfl HF.out Tryd.underlying33 rfl (by kernel_rfl)) rfl ?_
  exact ⟨_, rfl, by rw [expl_unk HQ.out]; exact RsV.nil _ 1 0 _, HB.out⟩
end Go.Proofs.YteefneemmdfncaaDoor.M
