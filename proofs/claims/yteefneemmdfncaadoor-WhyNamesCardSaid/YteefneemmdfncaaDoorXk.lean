import Derived.Test.YteefneemmdfncaaDoorXi
/- alive of why's statements, walked: reasons are given, and hold. Condition: none. -/
namespace Go.Proofs.YteefneemmdfncaaDoor.M
open Go.RowKit Go.Proofs.YteefneemmdfncaaDoorW.Raw Go.Proofs.YteefneemmdfncaaDoorW.PrintWords Go.Proofs.YteefneemmdfncaaDoorW.PrintLast Go.Proofs.YteefneemmdfncaaDoorW.PrintAll Go.Proofs.YteefneemmdfncaaDoor.F
set_option linter.unusedVariables false
set_option linter.unusedSimpArgs false
set_option maxRecDepth 100000 in
set_option maxHeartbeats 4000000 in
theorem walive_calls (w : World) : Calls Tryd.prog 19 #[] w fun e w' => e = .returned (.bool true) ∧ Below w.heap.size w w' := by
  go_enter Tryd.func19, Tryd.ntmps19
  go_upto_region 3 with (first
    | ((with_reducible refine gate_dst (N := 1) rfl ?_); refine box_event ?hg (N := 1) ?hd (cs := #[.string ⟨#[]⟩, .string ⟨#[]⟩, .string ⟨#[]⟩]) (t := 30) ?hr ?_; (case hd => rfl); (case hg => rfl); (case hr => first | (go_simp; done) | (go_simp; rfl)); intro b1 hg_ w1 hbx hBx; have HL1 := Lib.hid (show w.heap.size ≤ b1 from by rw [hg_]; exact Nat.le_refl _); have BW1 := Lib.hid hBx; have K1 := Lib.hid hbx; clear hg_ hbx hBx)
    | ((with_reducible refine gate_ (.store 30 (.tmp 1) (.tmp 6)) rfl ?_); go_must (refine bstore (t := 30) (p := 1) (v := .tmp 6) rfl rfl rfl b1 _ #[.string annW, .string doorW, .string openW] (.agg #[.string annW, .string doorW, .string openW]) rfl rfl rfl K1.out (by kernel_rfl) rfl (by simp [Value.oneCell']) ?_); intro w2 hb4 hs4 hz4 hB4; have K12 := Lib.hid hb4; have BW2 := Lib.hid (BW1.out.trans (hB4 _ HL1.out)); clear hb4 hs4 hz4 hB4)
    | ((with_reducible refine gate_dst (N := 2) rfl ?_); refine box_event ?hg (N := 2) ?hd (cs := #[.string ⟨#[]⟩, .string ⟨#[]⟩, .string ⟨#[]⟩]) (t := 30) ?hr ?_; (case hd => rfl); (case hg => rfl); (case hr => first | (go_simp; done) | (go_simp; rfl)); intro b2 hg_ w3 hbx hBx; have HL2 := Lib.hid (show w2.heap.size ≤ b2 from by rw [hg_]; exact Nat.le_refl _); have HB3 := Lib.hid hBx; have K2 := Lib.hid hbx; clear hg_ hbx hBx)
    | ((with_reducible refine gate_ (.store 30 (.tmp 2) (.tmp 7)) rfl ?_); go_must (refine bstore (t := 30) (p := 2) (v := .tmp 7) rfl rfl rfl b2 _ #[.string annW, .string doorW, .string shutW] (.agg #[.string annW, .string doorW, .string shutW]) rfl rfl rfl K2.out (by kernel_rfl) rfl (by simp [Value.oneCell']) ?_); intro w4 hb4 hs4 hz4 hB4; have K24 := Lib.hid hb4; have hb24 := HB3.out.trans (hB4 _ HL2.out); have K14 := Lib.hid (blk_below K12.out hb24); have BW4 := Lib.hid (BW2.out.trans (hb24.mono BW2.out.size)); clear hb4 hs4 hz4 hB4 hb24))
  refine al3.region (by kernel_rfl) rfl rfl K14.out ?_
  rintro xs W5 ⟨g3, v6, v7, e3, hle3, hb3, h6, h7, hB5⟩
  simp only [putZ, Act.put, List.setIfInBounds_toArray, List.set_cons_zero, List.set_cons_succ, Nat.reduceAdd]
  rw [e3]
  rw [ex_open] at hb3 h6 h7
  have K15 := Lib.hid (blk_below K14.out hB5)
  have K25 := Lib.hid (blk_below K24.out hB5)
  have BW5 := Lib.hid (BW4.out.trans (hB5.mono BW4.out.size))
  have HG3 := Lib.hid hb3
  have H6 := Lib.hid h6
  have H7 := Lib.hid h7
  clear e3 hle3 hb3 h6 h7 hB5
  go_upto_region 4 with fail
  refine al4.region (by kernel_rfl) rfl rfl K25.out ?_
  rintro ys W6 ⟨g4, u6, u7, e4, hle4, hb4, h6, h7, hB6⟩
  simp only [putZ, Act.put, List.setIfInBounds_toArray, List.set_cons_zero, List.set_cons_succ, Nat.reduceAdd]
  rw [e4]
  rw [ex_shut] at hb4 h6 h7
  obtain ⟨B6, d6, f6, m6, n6⟩ := h6.open
  obtain ⟨B7, d7, f7, m7, n7⟩ := h7.open
  obtain rfl : u6 = .slice B6 0 d6 := f6
  obtain rfl : u7 = .slice B7 0 d7 := f7
  obtain ⟨A6, c6, q6, l6, k6⟩ := (H6.out.mono hB6).open
  obtain ⟨A7, c7, q7, l7, k7⟩ := (H7.out.mono hB6).open
  obtain rfl : v6 = .slice A6 2 c6 := q6
  obtain rfl : v7 = .slice A7 1 c7 := q7
  have K16 := Lib.hid (blk_below K15.out hB6)
  have K26 := Lib.hid (blk_below K25.out hB6)
  have BW6 := Lib.hid (BW5.out.trans (hB6.mono BW5.out.size))
  have hg36 := blk_below HG3.out hB6
  have HG36 := Lib.hid hg36
  have HG4 := Lib.hid hb4
  have HN := Lib.hid (And.intro m6 (And.intro n6 (And.intro m7 n7)))
  have HLL := Lib.hid (And.intro l6 (And.intro k6 (And.intro l7 k7)))
  have s0 := (blk_cell hg36 0).trans (Eq.refl (some (Value.int .i8 4)))
  have s1 := (blk_cell hg36 1).trans (Eq.refl (some (Value.int .i64 1)))
  have s2 := (blk_cell hg36 2).trans (Eq.refl (some (Value.slice A6 2 c6)))
  clear e4 hle4 hb4 h6 h7 hB6 m6 n6 m7 n7 l6 k6 l7 k7 H6 H7 hg36
  have U1 : True := trivial
  go_upto_region 6 with (first
    | (go_at_call 17; clear U1; go_must (refine (gatehouselaw10_sameNames.calls 5 A6 c6 [annW, clerkW] (some ⟨W6.heap.size, 0, none⟩) 2 [annW, clerkW] true _ (Kd.C_below HLL.out.2.1 ((Below.refl W6.heap.size W6).alloc (Nat.le_refl _) _)) HLL.out.1 (str_C (xs := [annW, clerkW]) (heap_new W6 _) (by decide)) (by decide) (by kernel_rfl)).mono ?_); rintro e W7 ⟨rfl, hd⟩; obtain ⟨m, hm⟩ := hd.out; have hB7 : Below W6.heap.size W6 W7 := (by rw [hm]; exact pw_below_drewN ((Below.refl W6.heap.size W6).alloc (Nat.le_refl _) _) _); have HB7 := Lib.hid hB7; have s3 := (blk_cell (blk_below HG36.out hB7) 3).trans (Eq.refl (some (Value.slice A7 1 c7))); clear hd hm hB7 s0 s1 s2)
    | (go_at_call 17; go_must (refine (gatehouselaw10_sameNames.calls 5 A7 c7 [doorW] (some ⟨W7.heap.size, 0, none⟩) 1 [doorW] true _ (Kd.C_below HLL.out.2.2.2 (HB7.out.alloc HB7.out.size _)) HLL.out.2.2.1 (str_C (xs := [doorW]) (heap_new W7 _) (by decide)) (by decide) (by kernel_rfl)).mono ?_); rintro e W8 ⟨rfl, hd⟩; obtain ⟨m, hm⟩ := hd.out; have HB8 := Lib.hid (show Below W6.heap.size W6 W8 from by rw [hm]; exact pw_below_drewN (HB7.out.alloc HB7.out.size _) _); clear hd hm s3))
  have HB68 := HB8.out
  refine al6.region A6 A7 B6 B7 c6 c7 d6 d7 b1 b2 g3 g4 (fun W hW => k33_mk W (⟨4, 1, [annW, clerkW], [doorW]⟩ : Rsn) HLL.out.1 (Kd.C_below HLL.out.2.1 (HB68.trans (hW.mono HB68.size))) HLL.out.2.2.1 (Kd.C_below HLL.out.2.2.2 (HB68.trans (hW.mono HB68.size)))) (fun W hW => k33_mk W (⟨2, 1, [], []⟩ : Rsn) HN.out.1 (Kd.C_below HN.out.2.1 (HB68.trans (hW.mono HB68.size))) HN.out.2.2.1 (Kd.C_below HN.out.2.2.2 (HB68.trans (hW.mono HB68.size)))) (by kernel_rfl) rfl rfl (blk_below K16.out HB68) rfl (blk_below K26.out HB68) rfl (blk_below HG36.out HB68) rfl (blk_below HG4.out HB68) rfl ?_
  rintro zs W9 hB9 hv
  have hv' : zs 38 = .bool true := hv
  simp only [putZ, Act.put, List.setIfInBounds_toArray, List.set_cons_zero, List.set_cons_succ, Nat.reduceAdd]
  rw [hv']
  have BW9 := Lib.hid (BW6.out.trans ((HB68.trans (hB9.mono HB68.size)).mono BW6.out.size))
  clear hB9 hv hv' HB68
  go_wp2_with fail
  go_ret
  exact ⟨rfl, BW9.out⟩
end Go.Proofs.YteefneemmdfncaaDoor.M
/- WhyNames, walked. Condition: none. -/
namespace Go.Proofs.YteefneemmdfncaaDoor.M
open Go.RowKit Go.Proofs.YteefneemmdfncaaDoorW.Raw Go.Proofs.YteefneemmdfncaaDoorW.PrintWords Go.Proofs.YteefneemmdfncaaDoorW.PrintLast Go.Proofs.YteefneemmdfncaaDoorW.PrintAll Go.Proofs.YteefneemmdfncaaDoor.F
set_option linter.unusedVariables false
set_option maxRecDepth 100000 in
set_option maxHeartbeats 4000000 in
theorem names_walk (w : World) : Calls Tryd.prog 4 #[] w fun e w' => e = .returned (.bool true) ∧ Below w.heap.size w w' := by
  go_enter Tryd.func4, Tryd.ntmps4
  go_wp2_with (go_at_call 19; refine (walive_calls _).mono ?_; rintro e w1 ⟨rfl, hb⟩; have HB1 := Lib.hid hb; clear hb)
  go_ret
  exact ⟨rfl, HB1.out⟩
end Go.Proofs.YteefneemmdfncaaDoor.M
