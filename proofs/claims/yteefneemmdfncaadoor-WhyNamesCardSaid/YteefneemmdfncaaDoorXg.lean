import Derived.Test.YteefneemmdfncaaDoorWj
import Derived.Test.YteefneemmdfncaaDoorWb
/- why.once, Who, What, walked. Conditions: the policy reads as it must; its lists are bounded. -/
namespace Go.Proofs.YteefneemmdfncaaDoor.M
open Go.RowKit Go.Proofs.YteefneemmdfncaaDoorW.Raw Go.Proofs.YteefneemmdfncaaDoorW.PrintWords Go.Proofs.YteefneemmdfncaaDoor.F
set_option linter.unusedVariables false
set_option linter.unusedSimpArgs false
attribute [local go_sem] run_store_float
/-- Names, each where it stands first, that pass: of the first k. -/
def onceP (q : ByteArray → Bool) (l : List ByteArray) : Nat → List ByteArray
  | 0 => []
  | k + 1 => onceP q l k ++ (match l[k]? with | some s => if !memB (l.take k) s && q s then [s] else [] | none => [])
def onceL (q : ByteArray → Bool) (l : List ByteArray) : List ByteArray := onceP q l l.length
theorem onceP_no {q : ByteArray → Bool} {l : List ByteArray} {k : Nat} {s : ByteArray} (hs : l[k]? = some s) (h : (!memB (l.take k) s && q s) = false) : onceP q l (k + 1) = onceP q l k := by
  show onceP q l k ++ (match l[k]? with | some s => if !memB (l.take k) s && q s then [s] else [] | none => []) = _
  rw [hs]
  show onceP q l k ++ (if !memB (l.take k) s && q s then [s] else []) = _
  rw [h, if_neg (by decide), List.append_nil]
theorem onceP_yes {q : ByteArray → Bool} {l : List ByteArray} {k : Nat} {s : ByteArray} (hs : l[k]? = some s) (h : (!memB (l.take k) s && q s) = true) : onceP q l (k + 1) = onceP q l k ++ [s] := by
  show onceP q l k ++ (match l[k]? with | some s => if !memB (l.take k) s && q s then [s] else [] | none => []) = _
  rw [hs]
  show onceP q l k ++ (if !memB (l.take k) s && q s then [s] else []) = _
  rw [h, if_pos rfl]
theorem onceP_len (q : ByteArray → Bool) (l : List ByteArray) : ∀ k, (onceP q l k).length ≤ k
  | 0 => Nat.le_refl _
  | k + 1 => by
    have h := onceP_len q l k
    cases hs : l[k]? with
    | none =>
      show (onceP q l k ++ (match l[k]? with | some s => if !memB (l.take k) s && q s then [s] else [] | none => [])).length ≤ _
      rw [hs]
      simp
      omega
    | some s =>
      cases hq : (!memB (l.take k) s && q s) with
      | false => rw [onceP_no hs hq]; omega
      | true => rw [onceP_yes hs hq, List.length_append]; show _ + 1 ≤ _; omega
theorem text_at {w : World} {A : Option Addr} {n : Nat} {l : List ByteArray} {k : Nat} {s : ByteArray} (h : Kd.C Kd.string w A n l) (hn : n = l.length) (hs : l[k]? = some s) : ∃ ad, A = some ad ∧ ∀ W, Below w.heap.size w W → W.cell? (ad.add k) = some (.string s) := by
  subst hn
  obtain ⟨hlt, he⟩ := List.getElem?_eq_some_iff.1 hs
  obtain ⟨ad, c, rfl, _, hK, hc⟩ := Kd.C_get h ByteArray.empty (k : Int) (by omega) (by omega)
  have hg : l.getD (k : Int).toNat ByteArray.empty = s := by simp [List.getD_eq_getElem?_getD, hs]
  rw [hg] at hK
  obtain rfl : c = [.string s] := hK
  have h0 := hc 0 (.string s) rfl
  have h1 : w.cell? (ad.add k) = some (.string s) := by
    have h2 := h0
    rw [show Kd.string.sz = 1 from rfl] at h2
    simpa using h2
  exact ⟨ad, rfl, fun W hW => (hW.cell (World.block_lt_of_cell? w _ h1)).trans h1⟩
set_option maxRecDepth 100000 in
set_option maxHeartbeats 2000000 in
theorem who1_calls (p : Pol) (C : Array Value) (x y s : ByteArray) (b3 b4 b5 : Nat) (w : World) (hb3 : w.heap[b3]? = some (.cells C 28 (0, 0))) (hb4 : w.heap[b4]? = some (.cells #[.string x] 9 (0, 0))) (hb5 : w.heap[b5]? = some (.cells #[.string y] 9 (0, 0))) (hk : k28.K w p C.toList) (hn : OkP p) :
    Calls Tryd.prog 60 #[.string s, .pointer (some ⟨b3, 0, none⟩), .pointer (some ⟨b4, 0, none⟩), .pointer (some ⟨b5, 0, none⟩)] w fun e w' => e = .returned (.bool (allowsB p ⟨s, x, y⟩)) ∧ Below w.heap.size w w' := by
  have HK := Lib.hid hk
  have HSP := Lib.hid (pol_size hk)
  have H3 := Lib.hid hb3
  have q4 := (blk_cell hb4 0).trans (Eq.refl (some (Value.string x)))
  have q5 := (blk_cell hb5 0).trans (Eq.refl (some (Value.string y)))
  clear hk hb3 hb4 hb5
  go_enter Tryd.func60, Tryd.ntmps60
  go_wp2_with (first
    | ((with_reducible refine gate_ (.load 28 (.tmp 1)) rfl ?_); go_must (refine wpList_load_row rfl 28 (.tmp 1) rfl b3 rfl _ _ _ _ H3.out Tryd.underlying28 rfl HSP.out ?_))
    | (go_at_call 20; go_must (refine (allows_pol_calls p C ⟨s, x, y⟩ _ HK.out hn).mono ?_); rintro e w7 ⟨rfl, hb⟩; have HB7 := Lib.hid hb; clear hb))
  go_ret
  exact ⟨rfl, HB7.out⟩
set_option maxRecDepth 100000 in
set_option maxHeartbeats 4000000 in
theorem once_who (q : ByteArray → Bool) (l : List ByteArray) (b3 b4 b5 : Nat) (A : Option Addr) (c : Nat) (w : World) (h : Kd.C Kd.string w A l.length l) (hc : l.length ≤ c) (hl : l.length ≤ 4194304)
    (hq : ∀ (s : ByteArray) (W : World), Below w.heap.size w W → Calls Tryd.prog 60 #[.string s, .pointer (some ⟨b3, 0, none⟩), .pointer (some ⟨b4, 0, none⟩), .pointer (some ⟨b5, 0, none⟩)] W fun e w' => e = .returned (.bool (q s)) ∧ Below W.heap.size W w') :
    Calls Tryd.prog 59 #[.slice A l.length c, .func (.func 60) #[] #[.pointer (some ⟨b3, 0, none⟩), .pointer (some ⟨b4, 0, none⟩), .pointer (some ⟨b5, 0, none⟩)]] w fun e w' => ∃ v, e = .returned v ∧ SsR w.heap.size (onceL q l) v w' ∧ Below w.heap.size w w' := by
  have H := Lib.hid h
  have HC := Lib.hid hc
  have HL := Lib.hid hl
  have HQ := Lib.hid hq
  have hmx : l.length ≤ 9223372036854775807 := h.2.1
  clear h hc hl hq
  go_enter Tryd.func59, Tryd.ntmps59
  go_wp2_with fail
  go_loopw [5, 10] (fun v5 i wr => ∃ k : Nat, k ≤ l.length ∧ i = .int .i64 (k : Nat) ∧ Hid (SsR w.heap.size (onceP q l k) v5 wr) ∧ Hid (Below w.heap.size w wr)) (fun _ i _ => l.length - (intOf i).toNat)
  case atStart => exact ⟨0, Nat.zero_le _, rfl, Lib.hid (Kd.R_nil _ _ _ _ _), Lib.hid (Below.refl _ _)⟩
  case round =>
    obtain ⟨k, hk, rfl, HR, HB⟩ := hrel
    by_cases hlt : k < l.length
    · obtain ⟨s, hs⟩ : ∃ s, l[k]? = some s := ⟨_, List.getElem?_eq_getElem hlt⟩
      obtain ⟨ad, rfl, hel⟩ := text_at H.out rfl hs
      have e0 := hel wr HB.out
      have HS := Lib.hid hs
      have hkc : k ≤ c := Nat.le_trans (Nat.le_of_lt hlt) HC.out
      have htk : (l.take k).length = k := by rw [List.length_take]; omega
      have HCT := Lib.hid (fun (b : Bool) (hb : memB (l.take k) s = b) (W : World) (hW : Below w.heap.size w W) => (show Calls Tryd.prog 47 #[.slice (some ad) k c, .string s] W fun e w' => e = .returned (.bool b) ∧ Below W.heap.size W w' from by
        have := contains_b (l.take k) s (some ad) c W (Kd.C_below (Kd.C_take H.out (by omega)) hW) (by rw [htk]; exact hkc)
        rw [htk, hb] at this
        exact this))
      clear hs hel htk
      cases hm : memB (l.take k) s with
      | true =>
        have HN := Lib.hid (onceP_no (q := q) HS.out (show (!memB (l.take k) s && q s) = false by rw [hm]; rfl))
        have HM := Lib.hid hm
        clear hm
        go_wp2_with (first | (go_at_call 47; go_must (refine (HCT.out true HM.out _ HB.out).mono ?_); rintro e w2 ⟨rfl, hb⟩; have HB2 := Lib.hid (HB.out.trans (hb.mono HB.out.size)); have HR2 := Lib.hid (HR.out.mono hb); clear hb))
        go_roundw
        case rel => exact ⟨k + 1, hlt, by go_num, Lib.hid (by rw [HN.out]; exact HR2.out), HB2⟩
        case measure => simp [intOf]; omega
      | false =>
        have HM := Lib.hid hm
        cases hqs : q s with
        | false =>
          have HN := Lib.hid (onceP_no (q := q) HS.out (show (!memB (l.take k) s && q s) = false by rw [hm, hqs]; rfl))
          have HQS := Lib.hid hqs
          clear hm hqs
          go_wp2_with (first
            | (go_at_call 47; go_must (refine (HCT.out false HM.out _ HB.out).mono ?_); rintro e w2 ⟨rfl, hb⟩; have HB2 := Lib.hid (HB.out.trans (hb.mono HB.out.size)); have HR2 := Lib.hid (HR.out.mono hb); clear hb)
            | (go_at_call 60; go_must (refine (HQ.out s _ HB2.out).mono ?_); rw [HQS.out]; rintro e w3 ⟨rfl, hb⟩; have HB3 := Lib.hid (HB2.out.trans (hb.mono HB2.out.size)); have HR3 := Lib.hid (HR2.out.mono hb); clear hb))
          go_roundw
          case rel => exact ⟨k + 1, hlt, by go_num, Lib.hid (by rw [HN.out]; exact HR3.out), HB3⟩
          case measure => simp [intOf]; omega
        | true =>
          have HN := Lib.hid (onceP_yes (q := q) HS.out (show (!memB (l.take k) s && q s) = true by rw [hm, hqs]; rfl))
          have HQS := Lib.hid hqs
          have HLN := Lib.hid (onceP_len q l k)
          clear hm hqs
          obtain ⟨L, hL⟩ : ∃ L, L = onceP q l k := ⟨_, rfl⟩
          rw [← hL] at HR HN HLN
          clear hL
          go_wp2_with (first
            | (go_at_call 47; go_must (refine (HCT.out false HM.out _ HB.out).mono ?_); rintro e w2 ⟨rfl, hb⟩; have HB2 := Lib.hid (HB.out.trans (hb.mono HB.out.size)); have HR2 := Lib.hid (HR.out.mono hb); clear hb)
            | (go_at_call 60; go_must (refine (HQ.out s _ HB2.out).mono ?_); rw [HQS.out]; rintro e w3 ⟨rfl, hb⟩; have HB3 := Lib.hid (HB2.out.trans (hb.mono HB2.out.size)); have HR3 := Lib.hid (HR2.out.mono hb); clear hb)
            | ((with_reducible refine gate_builtin (b := .append) (xs := #[.tmp 26, .tmp 28]) rfl ?_); at_builtin; go_must (refine Kd.R_append Kd.string (w0 := w) w.heap.size rfl (.tmp 26) (.tmp 28) 22 9 (.string ⟨#[]⟩) 16 rfl Tryd.underlying22 info9 rfl (by decide) (by omega) _ L s [.string s] (fun _ => True) (fun _ => False) rfl rfl ?aP (fun _ hk => hk.elim) ?aF ?aO ?aB ?aS ?aL ?_); (case aP => exact rfl); (case aB => exact HB3.out); (case aF => exact (fun _ _ => trivial)); (case aO => exact HR3.out); (case aS => exact HB3.out.size); (case aL => have := HLN.out; have := HL.out; omega); intro v9 w7 ho hb hg hat; have HO7 := Lib.hid ho; have HB7 := Lib.hid hb; clear ho hb hg hat))
          go_roundw
          case rel => exact ⟨k + 1, hlt, by go_num, Lib.hid (by rw [HN.out]; exact HO7.out), HB7⟩
          case measure => simp [intOf]; omega
    · obtain rfl : k = l.length := by omega
      go_wp2_with fail
      go_ret
      exact ⟨_, rfl, HR.out, HB.out⟩
theorem names_take {l : List Sub} {k : Nat} {s : Sub} (h : l[k]? = some s) : (l.map (·.f0)).take (k + 1) = (l.map (·.f0)).take k ++ [s.f0] := by
  rw [List.take_add_one, List.getElem?_map, h]
  rfl
theorem sub_at {w : World} {A : Option Addr} {n : Nat} {l : List Sub} {k : Nat} {s : Sub} (h : Kd.C k61 w A n l) (hn : n = l.length) (hs : l[k]? = some s) : ∃ ad, A = some ad ∧ ∀ W, Below w.heap.size w W → W.cell? (ad.add (k * 2)) = some (.string s.f0) ∧ W.cell? ⟨(ad.add (k * 2)).block, (ad.add (k * 2)).off + 1, none⟩ = some (.float .f64 s.f1) := by
  subst hn
  obtain ⟨hlt, he⟩ := List.getElem?_eq_some_iff.1 hs
  obtain ⟨ad, rfl, e0, e1⟩ := at_T61 h (k : Int) (by omega) (by omega)
  have hrd : rd_T61 l (k : Int) = s := by rw [rdSub hlt]; exact he
  rw [hrd] at e0 e1
  simp only [Int.toNat_natCast] at e0 e1
  have key : ∀ {W : World} {a : Addr} {v : Value}, Below w.heap.size w W → w.cell? a = some v → W.cell? a = some v := fun hW e => (hW.cell (World.block_lt_of_cell? w _ e)).trans e
  exact ⟨ad, rfl, fun W hW => ⟨key hW e0, key hW e1⟩⟩
set_option maxRecDepth 100000 in
set_option maxHeartbeats 4000000 in
theorem who_calls (p : Pol) (C : Array Value) (x y : ByteArray) (w : World) (hk : k28.K w p C.toList) (hz : Sz p) :
    Calls Tryd.prog 24 #[.agg C, .string x, .string y] w fun e w' => ∃ v, e = .returned v ∧ SsR w.heap.size (onceL (fun s => allowsB p ⟨s, x, y⟩) (p.f1.map (·.f0))) v w' ∧ Below w.heap.size w w' := by
  have HK := Lib.hid hk
  have HSP := Lib.hid (pol_size hk)
  have OKP := Lib.hid (okB_iff.1 hz.ok)
  have hl1 := hz.l1
  have hl3 := hz.l3
  have hk' := hk
  obtain ⟨C', hC'⟩ : ∃ C' : Array Value, C' = C := ⟨_, rfl⟩
  rw [← hC'] at hk'
  obtain ⟨A0, c0, A1, c1, A2, c2, A3, c3, A4, c4, A5, c5, A6, c6, A7, c7, A8, c8, A9, c9, A10, c10, e_, l0, g0, l1, g1, l2, g2, l3, g3, l4, g4, l5, g5, l6, g6, l7, g7, l8, g8, l9, g9, l10, g10⟩ := k28_open hk'
  obtain rfl : C' = #[.slice A0 p.f0.length c0, .slice A1 p.f1.length c1, .slice A2 p.f2.length c2, .slice A3 p.f3.length c3, .slice A4 p.f4.length c4, .slice A5 p.f5.length c5, .slice A6 p.f6.length c6, .slice A7 p.f7.length c7, .slice A8 p.f8.length c8, .slice A9 p.f9.length c9, .slice A10 p.f10.length c10] := by cases C'; simpa using e_
  clear e_
  have HC1 := Lib.hid (show C[1]? = some (.slice A1 p.f1.length c1) by rw [← hC']; rfl)
  have HC3 := Lib.hid (show C[3]? = some (.slice A3 p.f3.length c3) by rw [← hC']; rfl)
  have H1 := Lib.hid g1
  have H3 := Lib.hid g3
  have L3 := Lib.hid l3
  clear hk hk' hC' hz l0 g0 l1 g1 l2 g2 l3 g3 l4 g4 l5 g5 l6 g6 l7 g7 l8 g8 l9 g9 l10 g10
  go_enter Tryd.func24, Tryd.ntmps24
  go_wp2_with (first
    | ((with_reducible refine gate_dst (N := 3) rfl ?_); refine box_event ?hg (N := 3) ?hd (cs := C) (t := 28) ?hr ?_; (case hd => rfl); (case hg => rfl); (case hr => first | (go_simp; done) | (go_simp; rfl)); intro b3 hg_ w1 hbx hBx; have BW1 := Lib.hid hBx; have K3 := Lib.hid hbx; clear hg_ hbx hBx)
    | ((with_reducible refine gate_dst (N := 4) rfl ?_); refine box_event ?hg (N := 4) ?hd (cs := #[.string x]) (t := 9) ?hr ?_; (case hd => rfl); (case hg => rfl); (case hr => first | (go_simp; done) | (go_simp; rfl)); intro b4 hg_ w2 hbx hBx; have K32 := Lib.hid (blk_below K3.out hBx); have BW2 := Lib.hid (BW1.out.trans (hBx.mono BW1.out.size)); have K4 := Lib.hid hbx; clear hg_ hbx hBx)
    | ((with_reducible refine gate_dst (N := 5) rfl ?_); refine box_event ?hg (N := 5) ?hd (cs := #[.string y]) (t := 9) ?hr ?_; (case hd => rfl); (case hg => rfl); (case hr => first | (go_simp; done) | (go_simp; rfl)); intro b5 hg_ w3 hbx hBx; have KP := Lib.hid (blk_below K32.out hBx); have K43 := Lib.hid (blk_below K4.out hBx); have BW3 := Lib.hid (BW2.out.trans (hBx.mono BW2.out.size)); have K5 := Lib.hid hbx; have q1 := (blk_cell (blk_below K32.out hBx) 1).trans HC1.out; clear hg_ hbx hBx))
  go_loopw [7, 13] (fun v7 i wr => ∃ k : Nat, k ≤ p.f1.length ∧ i = .int .i64 (k : Nat) ∧ Hid (SsR w3.heap.size ((p.f1.map (·.f0)).take k) v7 wr) ∧ Hid (Below w3.heap.size w3 wr)) (fun _ i _ => p.f1.length - (intOf i).toNat)
  case atStart => exact ⟨0, Nat.zero_le _, rfl, Lib.hid (Kd.R_nil _ _ _ _ _), Lib.hid (Below.refl _ _)⟩
  case round =>
    obtain ⟨k, hk, rfl, HR, HB⟩ := hrel
    by_cases hlt : k < p.f1.length
    · obtain ⟨s, hs⟩ : ∃ s, p.f1[k]? = some s := ⟨_, List.getElem?_eq_getElem hlt⟩
      obtain ⟨ad, rfl, hel⟩ := sub_at H1.out rfl hs
      obtain ⟨e0, e1⟩ := hel wr (BW3.out.trans (HB.out.mono BW3.out.size))
      have HN := Lib.hid (names_take hs)
      have HLN := Lib.hid (show ((p.f1.map (·.f0)).take k).length ≤ k by rw [List.length_take]; omega)
      clear hs hel
      obtain ⟨L, hL⟩ : ∃ L, L = (p.f1.map (·.f0)).take k := ⟨_, rfl⟩
      rw [← hL] at HR HN HLN
      clear hL
      obtain ⟨x1, hx1⟩ : ∃ z, z = s.f0 := ⟨_, rfl⟩
      rw [← hx1] at e0 HN
      obtain ⟨x2, hx2⟩ : ∃ z, z = s.f1 := ⟨_, rfl⟩
      rw [← hx2] at e1
      clear hx1 hx2
      go_wp2_with (first
    | ((with_reducible refine gate_dst (N := 9) rfl ?_); refine box_event ?hg (N := 9) ?hd (cs := #[.string ⟨#[]⟩, .float .f64 0]) (t := 61) ?hr ?_; (case hd => rfl); (case hg => rfl); (case hr => first | (go_simp; done) | (go_simp; rfl)); intro b9 hg_ w5 hbx hBx; have HL9 := Lib.hid (show wr.heap.size ≤ b9 from by rw [hg_]; exact Nat.le_refl _); have HB5 := Lib.hid hBx; have K9 := Lib.hid hbx; clear hg_ hbx hBx)
    | ((with_reducible refine gate_ (.store 61 (.tmp 9) (.tmp 16)) rfl ?_); go_must (refine bstore (t := 61) (p := 9) (v := .tmp 16) rfl rfl rfl b9 _ #[.string x1, .float .f64 x2] (.agg #[.string x1, .float .f64 x2]) rfl rfl rfl K9.out (by kernel_rfl) rfl (by simp [Value.oneCell']) ?_); intro w6 hb4 hs4 hz4 hB4; have hb46 := HB5.out.trans (hB4 _ HL9.out); have HB6 := Lib.hid (HB.out.trans (hb46.mono HB.out.size)); have HR6 := Lib.hid (HR.out.mono hb46); have z0 := (blk_cell hb4 0).trans (Eq.refl (some (Value.string x1))); clear hb4 hs4 hz4 hB4 hb46)
    | ((with_reducible refine gate_builtin (b := .append) (xs := #[.tmp 17, .tmp 20]) rfl ?_); at_builtin; go_must (refine Kd.R_append Kd.string (w0 := w3) w3.heap.size rfl (.tmp 17) (.tmp 20) 22 9 (.string ⟨#[]⟩) 16 rfl Tryd.underlying22 info9 rfl (by decide) (by omega) _ L x1 [.string x1] (fun _ => True) (fun _ => False) rfl rfl ?aP (fun _ hk => hk.elim) ?aF ?aO ?aB ?aS ?aL ?_); (case aP => exact rfl); (case aB => exact HB6.out); (case aF => exact (fun _ _ => trivial)); (case aO => exact HR6.out); (case aS => exact HB6.out.size); (case aL => have := HLN.out; omega); intro v9 w7 ho hb hg hat; have HO7 := Lib.hid ho; have HB7 := Lib.hid hb; clear ho hb hg hat))
      go_roundw
      case rel => exact ⟨k + 1, hlt, by go_num, Lib.hid (by rw [HN.out]; exact HO7.out), HB7⟩
      case measure => simp [intOf]; omega
    · obtain rfl : k = p.f1.length := by omega
      obtain ⟨NM, hNM⟩ : ∃ L, L = p.f1.map (·.f0) := ⟨_, rfl⟩
      have hNL : NM.length = p.f1.length := by rw [hNM, List.length_map]
      rw [← hNM, ← hNL, List.take_length] at HR
      have HNM := Lib.hid hNM
      have HNL := Lib.hid (show NM.length ≤ 4194304 by omega)
      have HWR := HB
      obtain ⟨A7, c7, rfl, hl7, hc7⟩ := HR.out.open
      have HL7 := Lib.hid hl7
      have HC7 := Lib.hid hc7
      clear hNM hNL hl7 hc7
      go_wp2_with (first | (go_at_call 59; go_must (refine (once_who (fun s => allowsB p ⟨s, x, y⟩) NM b3 b4 b5 A7 c7 _ HC7.out HL7.out HNL.out (fun s W hW => who1_calls p C x y s b3 b4 b5 W (blk_below (blk_below KP.out HWR.out) hW) (blk_below (blk_below K43.out HWR.out) hW) (blk_below (blk_below K5.out HWR.out) hW) (k28.K_below ((BW3.out.trans (HWR.out.mono BW3.out.size)).trans (hW.mono (Nat.le_trans BW3.out.size HWR.out.size))) HK.out) OKP.out)).mono ?_); rintro e w7 ⟨v, rfl, hv, hb⟩; have HV := Lib.hid (Kd.R_lower hv (Nat.le_trans BW3.out.size HWR.out.size)); have HB7 := Lib.hid ((BW3.out.trans (HWR.out.mono BW3.out.size)).trans (hb.mono (Nat.le_trans BW3.out.size HWR.out.size))); clear hv hb))
      go_ret
      exact ⟨_, rfl, by rw [← HNM.out]; exact HV.out, HB7.out⟩
end Go.Proofs.YteefneemmdfncaaDoor.M
