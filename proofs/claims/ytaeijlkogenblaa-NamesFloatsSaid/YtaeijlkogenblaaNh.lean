/- NamesFloats: the walk. Conditions: the script reads as it must. -/
import Derived.Test.YtaeijlkogenblaaNg
namespace Go.Proofs.Ytaeijlkogenblaa.Nf
open Go.RowKit Go.Shelf Go.Proofs.YtaeijlkogenblaaW.Raw Go.Proofs.YtaeijlkogenblaaW.PrintWords Go.Proofs.Ytaeijlkogenblaa.IxF
set_option linter.unusedVariables false
attribute [local go_sem] Oper.semAt_some
attribute [local go_sem high] flt_eql flt_neq
theorem idx_less {w : World} {base base' g m : Nat} {v : Value} {xs : List Nat} (h : Idx w base' g m v xs) (hle : base ≤ base') : Idx w base g m v xs :=
  ⟨h.blk, h.raw, own_less h.row hle, Nat.le_trans hle h.hg, Nat.le_trans hle h.hm⟩
theorem size50 : (Try.prog.info? 50).map (·.size) = some 7 := by kernel_rfl
theorem size55 : (Try.prog.info? 55).map (·.size) = some 1 := by kernel_rfl
theorem pl_cases (xs : List Nat) (f : Nat) : (pl xs f = -1 ∧ xs.findIdx? (fun b => eqk f b) = none) ∨ ∃ i : Nat, pl xs f = (i : Int) ∧ i < xs.length ∧ xs.findIdx? (fun b => eqk f b) = some i := by
  unfold pl
  cases h : xs.findIdx? (fun b => eqk f b) with
  | none => exact .inl ⟨rfl, rfl⟩
  | some i => exact .inr ⟨i, rfl, by have := List.findIdx?_eq_some_iff_getElem.1 h; exact this.1, rfl⟩
def It (w w5 : World) (kb : Nat) (pre : List (Nat × Nat)) (W : World) : Prop := W.heap[kb]? = some (.cells #[.int .i64 pre.length] 3 (0, 0)) ∧ (∀ i, i < w5.heap.size → i ≠ kb → W.heap[i]? = w5.heap[i]?) ∧ Below w.heap.size w W
theorem It_own {w w5 : World} {kb : Nat} (h : kb < w5.heap.size) (hw : w.heap.size ≤ w5.heap.size) : OwnFrom w5.heap.size (It w w5 kb) := fun s X Y row hs hg hr =>
  ⟨(hg.block kb (lt_of_get hs.1) (fun e => by have := (hr _ e.symm).1; omega)).trans hs.1, fun i hi hn => by
    have e := hs.2.1 i hi hn
    have hl : i < X.heap.size := by
      have : w5.heap[i]? = some w5.heap[i] := Array.getElem?_eq_getElem hi
      rw [this] at e
      exact lt_of_get e
    exact (hg.block i hl (fun e => by have := (hr _ e.symm).1; omega)).trans e, hs.2.2.grown hg hs.2.2.size (fun j e => by have := (hr j e).1; omega)⟩
theorem It_keep {W : World} {D kb : Nat} {u : Value} (h : D < kb) : keepB D W (W.setCell ⟨kb, 0, none⟩ u) := Below.heap_setCell _ _ _ _ (fun e => by have e' : D = kb := e; omega)
theorem It_next {w w5 W : World} {kb : Nat} {pre : List (Nat × Nat)} {x : Nat × Nat} {p : Nat} (h : It w w5 kb pre W) (hp : p = pre.length) (hw : w.heap.size ≤ kb) : It w w5 kb (pre ++ [x]) (W.setCell ⟨kb, 0, none⟩ (.int .i64 ((p : Int) + 1))) := by
  subst hp
  refine ⟨?_, fun i hi hn => (Below.heap_setCell _ _ _ _ hn).trans (h.2.1 i hi hn), h.2.2.setCell (p := ⟨kb, 0, none⟩) hw _⟩
  have := blk_set h.1 0 (.int .i64 ((pre.length : Int) + 1))
  rw [this]
  simp
theorem upto_last {xs : List Nat} {pre : List (Nat × Nat)} {x : Nat × Nat} {j : Nat} (h : pre ++ [x] = upto xs j) : x = (pre.length, rdOf 0 xs (pre.length : Int)) := by
  have hl := congrArg List.length h
  rw [upto_length, List.length_append, List.length_singleton] at hl
  subst hl
  rw [upto_succ] at h
  exact (List.cons.inj (List.append_inj_right' h rfl)).1
theorem ownD_lt {w : World} {base n size : Nat} {e : TypeId} {v : Value} {xs : List Value} (h : w.ownsRow base e size v n xs) (hB : 0 < w.heap.size) : v.ownBlock.getD 0 < w.heap.size := by
  cases hv : v.ownBlock with
  | none => exact hB
  | some b => exact own_lt h b hv
set_option maxHeartbeats 2000000 in
set_option maxRecDepth 100000 in
theorem floats_walk (x0 : List Stp) (A : Option Addr) (c : Nat) (w : World) (hc : x0.length ≤ c) (hr : Kd.C kSt w A x0.length x0) :
    Calls Try.prog 6 #[.slice A x0.length c] w fun e w' => e = .returned (.bool true) ∧ Below w.heap.size w w' := by
  have HR := Lib.hid hr
  clear hr
  refine callsIn_wide.1 (callsIn_of_wp_marks (F := Fence.wide) (n := 5) Try.func6 rfl trivial (wpIn_wide.2 ?_) rfl)
  simp only [Try.ntmps6, List.size_toArray, List.length_cons, List.length_nil, Nat.reduceAdd, Nat.reduceSub, Array.replicate_succ, Array.replicate_zero, List.push_toArray, List.append_toArray, List.nil_append, List.cons_append]
  go_wp2_with (first | ((with_reducible refine gate_dst (N := 2) rfl ?_); refine box_event rfl (N := 2) rfl (cs := #[.bool false]) (t := 4) ?hr ?_; (case hr => first | (go_simp; done) | (go_simp; rfl)); intro r0 hg w1 hb0 hbel; have HB := Lib.hid hbel; have HG := Lib.hid (show w.heap.size ≤ r0 by rw [hg]; exact Nat.le_refl _); have BR := Lib.hid hb0; clear hg hb0 hbel) | (go_at_call 19; refine (IxF.new_calls _).mono ?_; rintro e w2 ⟨g, m, rfl, hI, hb⟩; have HI := Lib.hid hI; have HB2 := Lib.hid hb; clear hI hb) | (go_at_call 20; refine (first_calls _ _ _ _ hc).mono ?_; rintro e w3 ⟨rfl, rfl⟩) | ((with_reducible refine gate_dst (N := 4) rfl ?_); refine box_event rfl (N := 4) rfl (cs := #[.slice none 0 0]) (t := 55) ?hr ?_; (case hr => first | (go_simp; done) | (go_simp; rfl)); intro bl hg w4 hb0 hbel; have HB4 := Lib.hid hbel; have HG4 := Lib.hid hg; have BL := Lib.hid hb0; clear hg hb0 hbel))
  have hbl : bl = w3.heap.size := HG4.out
  have hF0 : Fs w w4 g m bl r0 (.slice none 0 0) (.slice none 0 0) (.slice none 0 0) [] [] :=
    ⟨idx_less (idx_move HI.out (fun i hi _ => HB4.out.block i hi)) HB.out.size, BL.out, own_nil _ _ _ _, fun b hb => (by cases hb),
      (HB4.out.block _ (Nat.lt_of_lt_of_le (lt_of_get BR.out) HB2.out.size)).trans ((HB2.out.block _ (lt_of_get BR.out)).trans BR.out),
      (HB.out.trans (HB2.out.mono HB.out.size)).trans (HB4.out.mono (Nat.le_trans HB.out.size HB2.out.size)), by rw [hbl]; exact Nat.le_trans HB.out.size HB2.out.size, HG.out⟩
  obtain ⟨L, hL⟩ : ∃ L, L = min x0.length 1000 := ⟨_, rfl⟩
  rw [← hL]
  have hL1 : L ≤ x0.length := by omega
  have hL2 : (L : Int) ≤ 1000 := by omega
  have HF0 := Lib.hid hF0
  have HL1 := Lib.hid hL1
  clear hL hL1 hbl hF0 HI HB2 HB4 HG4 BL HB HG BR hc
  go_loopw [5] (fun i wr => ∃ (k : Nat) (v u : Value) (xs : List Nat), k ≤ L ∧ i = .int .i64 (k : Nat) ∧ xs.length ≤ k ∧ Fs w wr g m bl r0 v u u xs xs) (fun i _ => L - (intOf i).toNat)
  case atStart => exact ⟨0, _, _, [], Nat.zero_le _, rfl, Nat.zero_le _, HF0.out⟩
  case round =>
    obtain ⟨k, v, u, xs, hk, rfl, hxk, hF⟩ := hrel
    obtain ⟨Au, cu, rfl⟩ := hF.slice
    clear HF0
    by_cases hlt : k < L
    · obtain ⟨ad, eA, hst⟩ := at_st HR.out k (Nat.lt_of_lt_of_le hlt HL1.out)
      subst eA
      obtain ⟨x, hx⟩ : ∃ x, x = x0.getD k zSt := ⟨_, rfl⟩
      rw [← hx] at hst
      have hst' : ∀ j y, (cellsOf x)[j]? = some y → wr.cell? (ad.add (k * 7 + j)) = some y := fun j y hy => pw_cell_below hF.b (hst j y hy)
      have q0 := hst' 0 _ rfl
      have q1 := hst' 1 _ rfl
      have q2 := hst' 2 _ rfl
      have q3 := hst' 3 _ rfl
      have q4 := hst' 4 _ rfl
      have q5 := hst' 5 _ rfl
      have q6 := hst' 6 _ rfl
      have e0 : ad.add (k * 7 + 0) = ad.add (k * 7) := rfl
      rw [e0] at q0
      rw [add_field _ _ _ (by decide)] at q1 q2 q3 q4 q5 q6
      obtain ⟨xd, hxd⟩ : ∃ xd, xd = x.1 := ⟨_, rfl⟩
      obtain ⟨xs_, hxs⟩ : ∃ xs_, xs_ = x.2.1 := ⟨_, rfl⟩
      obtain ⟨f, hf⟩ : ∃ f, f = x.2.2.1 := ⟨_, rfl⟩
      obtain ⟨p0, hp0⟩ : ∃ p0, p0 = x.2.2.2.1.getD 0 0 := ⟨_, rfl⟩
      obtain ⟨p1, hp1⟩ : ∃ p1, p1 = x.2.2.2.1.getD 1 0 := ⟨_, rfl⟩
      obtain ⟨xn, hxn⟩ : ∃ xn, xn = x.2.2.2.2.1 := ⟨_, rfl⟩
      obtain ⟨xm, hxm⟩ : ∃ xm, xm = x.2.2.2.2.2 := ⟨_, rfl⟩
      rw [← hxd] at q0
      rw [← hxs] at q1
      rw [← hf] at q2
      rw [← hp0] at q3
      rw [← hp1] at q4
      rw [← hxn] at q5
      rw [← hxm] at q6
      have HF := Lib.hid hF
      have hkL : (k : Int) < (L : Int) := by omega
      clear hst hst' hF hxd hxs hf hp0 hp1 hxn hxm hx hk e0
      have hxl : (xs.length : Int) < 1001 := by omega
      have HLB := Lib.hid (show xs.length < 1000 by omega)
      have HXK := Lib.hid hxk
      have hfz : feq 0 0 = true := by decide +kernel
      clear hxk
      by_cases hd0 : xd = 1
      · have hd1 : (xd == 1) = true := beq_iff_eq.2 hd0
        clear hd0
        rcases pl_cases xs f with ⟨hpl, hi⟩ | ⟨i, hpl, hil, hi⟩
        · have HI := Lib.hid hi
          clear hi
          go_wp2_with (first | ((with_reducible refine gate_dst (N := 6) rfl ?_); refine box_event rfl (N := 6) rfl (cs := #[.int .i64 0, .string ⟨#[]⟩, .float .f64 0, .int .i64 0, .int .i64 0, .int .i64 0, .int .i64 0]) (t := 50) ?hr ?_; (case hr => first | (go_simp; done) | (go_simp; rfl)); intro g0 hg w5 hb0 hbel; have HB5 := Lib.hid hbel; have HG5 := Lib.hid (show wr.heap.size ≤ g0 by rw [hg]; exact Nat.le_refl _); have BK := Lib.hid hb0; clear hg hb0 hbel) | ((with_reducible refine gate_ (.store 50 (.tmp 6) (.tmp 30)) rfl ?_); refine bstore (t := 50) (p := 6) (v := .tmp 30) rfl rfl rfl g0 _ #[.int .i64 xd, .string xs_, .float .f64 f, .int .i64 p0, .int .i64 p1, .int .i64 xn, .int .i64 xm] (.agg #[.int .i64 xd, .string xs_, .float .f64 f, .int .i64 p0, .int .i64 p1, .int .i64 xn, .int .i64 xm]) rfl rfl rfl BK.out size50 rfl (by simp [Value.oneCell']) ?_; intro w6 hb6 hs6 hz6 hB6; have hF6 := HF.out.below (HB5.out.trans (hB6 _ HG5.out)); have HF6 := Lib.hid hF6; have d0 := (blk_cell hb6 0).trans (Eq.refl (some (Value.int .i64 xd))); have d2 := (blk_cell hb6 2).trans (Eq.refl (some (Value.float .f64 f))); have d5 := (blk_cell hb6 5).trans (Eq.refl (some (Value.int .i64 xn))); have hcb := (blk_cell hF6.box 0).trans (Eq.refl (some (Value.slice Au xs.length cu))); have BK6 := Lib.hid hb6; clear hb6 hs6 hz6 hB6 hF6) | (go_at_call 21; refine (place_calls xs Au cu _ f _ HF6.out.row).mono ?_; rw [hpl]; rintro e w_ ⟨rfl, rfl⟩) | (at_builtin; go_must (refine print_append_of (Value.float .f64) w.heap.size rfl _ _ 55 47 (.float .f64 0) 8 rfl Try.underlying55 IxF.info47 rfl (by decide) (.slice Au xs.length cu) xs f rfl rfl rfl HF6.out.row HF6.out.b HF6.out.b.size (by have := HLB.out; omega) ?_); intro v1 w7 hown hb7 hg7 hat; have BK7 := Lib.hid ((hg7.block g0 (lt_of_get BK6.out) (fun e => own_ne HF6.out.row BK6.out (by decide) e)).trans BK6.out); have HF7 := Lib.hid (HF6.out.app hown hb7 hg7 hat); obtain ⟨A1, c1, hv⟩ := own_slice hown; rw [hv] at HF7; rw [hv]; clear hown hb7 hg7 hat hv hcb; rw [show (xs ++ [f]).length = xs.length + 1 by simp] at HF7 ⊢; have BL7 := Lib.hid HF7.out.box) | ((with_reducible refine gate_ (.store 55 (.tmp 4) (.tmp 45)) rfl ?_); refine bstore (t := 55) (p := 4) (v := .tmp 45) rfl rfl rfl bl _ #[.slice A1 (xs.length + 1) c1] (.slice A1 (xs.length + 1) c1) rfl rfl rfl BL7.out size55 rfl (by simp [Value.oneCell']) ?_; intro w8 hb8 hs8 hz8 hB8; have HF8 := Lib.hid (HF7.out.put hb8 hs8 hB8); have hcb8 := (blk_cell hb8 0).trans (Eq.refl (some (Value.slice A1 (xs.length + 1) c1))); have d28 := (blk_cell ((hs8 g0 (fun e => blk_ne BK7.out BL7.out (by decide) e)).trans BK7.out) 2).trans (Eq.refl (some (Value.float .f64 f))); clear hb8 hs8 hz8 hB8 d0 d2 d5) | (go_at_call 22; refine (of_new_fs HF8.out f HI.out (by have := HLB.out; omega)).mono ?_; rintro e w9 ⟨rfl, v9, hF9⟩; have hcb9 := (blk_cell hF9.box 0).trans (Eq.refl (some (Value.slice A1 (xs.length + 1) c1))); have HF9 := Lib.hid hF9; clear hF9 hcb8 d28))
          go_quiet ((first | (go_at_call 26; exact Calls.quiet_of_same (IxF.len_calls _ _ g m _ _ (idx_move HF9.out.I (fun _ _ _ => rfl))))))
          go_wp2_with fail
          go_roundw
          case rel => exact ⟨k + 1, _, _, (xs ++ [f]), hlt, by go_num, by have := HXK.out; simp; omega, HF9.out.drew _⟩
          case measure => simp [intOf]; omega
        · have HI := Lib.hid hi
          have HIL := Lib.hid hil
          have hi0 : decide ((i : Int) < 0) = false := decide_eq_false (by omega)
          have hib : (i : Int) < 1001 := by omega
          clear hi hil
          go_wp2_with (first | ((with_reducible refine gate_dst (N := 6) rfl ?_); refine box_event rfl (N := 6) rfl (cs := #[.int .i64 0, .string ⟨#[]⟩, .float .f64 0, .int .i64 0, .int .i64 0, .int .i64 0, .int .i64 0]) (t := 50) ?hr ?_; (case hr => first | (go_simp; done) | (go_simp; rfl)); intro g0 hg w5 hb0 hbel; have HB5 := Lib.hid hbel; have HG5 := Lib.hid (show wr.heap.size ≤ g0 by rw [hg]; exact Nat.le_refl _); have BK := Lib.hid hb0; clear hg hb0 hbel) | ((with_reducible refine gate_ (.store 50 (.tmp 6) (.tmp 30)) rfl ?_); refine bstore (t := 50) (p := 6) (v := .tmp 30) rfl rfl rfl g0 _ #[.int .i64 xd, .string xs_, .float .f64 f, .int .i64 p0, .int .i64 p1, .int .i64 xn, .int .i64 xm] (.agg #[.int .i64 xd, .string xs_, .float .f64 f, .int .i64 p0, .int .i64 p1, .int .i64 xn, .int .i64 xm]) rfl rfl rfl BK.out size50 rfl (by simp [Value.oneCell']) ?_; intro w6 hb6 hs6 hz6 hB6; have hF6 := HF.out.below (HB5.out.trans (hB6 _ HG5.out)); have HF6 := Lib.hid hF6; have d0 := (blk_cell hb6 0).trans (Eq.refl (some (Value.int .i64 xd))); have d2 := (blk_cell hb6 2).trans (Eq.refl (some (Value.float .f64 f))); have d5 := (blk_cell hb6 5).trans (Eq.refl (some (Value.int .i64 xn))); have hcb := (blk_cell hF6.box 0).trans (Eq.refl (some (Value.slice Au xs.length cu))); have BK6 := Lib.hid hb6; clear hb6 hs6 hz6 hB6 hF6) | (go_at_call 21; refine (place_calls xs Au cu _ f _ HF6.out.row).mono ?_; rw [hpl]; rintro e w_ ⟨rfl, rfl⟩) | (go_at_call 22; refine (of_found f xs i _ g m v _ HF6.out.I HI.out HIL.out).mono ?_; rintro e w9 ⟨rfl, rfl⟩))
          go_quiet ((first | (go_at_call 26; exact Calls.quiet_of_same (IxF.len_calls _ _ g m _ _ (idx_move HF6.out.I (fun _ _ _ => rfl))))))
          go_wp2_with fail
          go_roundw
          case rel => exact ⟨k + 1, _, _, xs, hlt, by go_num, by have := HXK.out; omega, HF6.out.drew _⟩
          case measure => simp [intOf]; omega
      · have hd1 : (xd == 1) = false := beq_eq_false_iff_ne.2 hd0
        by_cases hd0' : xd = 2
        · have hd2 : (xd == 2) = true := beq_iff_eq.2 hd0'
          clear hd0 hd0'
          rcases pl_cases xs f with ⟨hpl, hi⟩ | ⟨i, hpl, hil, hi⟩
          · have HI := Lib.hid hi
            clear hi
            go_wp2_with (first | ((with_reducible refine gate_dst (N := 6) rfl ?_); refine box_event rfl (N := 6) rfl (cs := #[.int .i64 0, .string ⟨#[]⟩, .float .f64 0, .int .i64 0, .int .i64 0, .int .i64 0, .int .i64 0]) (t := 50) ?hr ?_; (case hr => first | (go_simp; done) | (go_simp; rfl)); intro g0 hg w5 hb0 hbel; have HB5 := Lib.hid hbel; have HG5 := Lib.hid (show wr.heap.size ≤ g0 by rw [hg]; exact Nat.le_refl _); have BK := Lib.hid hb0; clear hg hb0 hbel) | ((with_reducible refine gate_ (.store 50 (.tmp 6) (.tmp 30)) rfl ?_); refine bstore (t := 50) (p := 6) (v := .tmp 30) rfl rfl rfl g0 _ #[.int .i64 xd, .string xs_, .float .f64 f, .int .i64 p0, .int .i64 p1, .int .i64 xn, .int .i64 xm] (.agg #[.int .i64 xd, .string xs_, .float .f64 f, .int .i64 p0, .int .i64 p1, .int .i64 xn, .int .i64 xm]) rfl rfl rfl BK.out size50 rfl (by simp [Value.oneCell']) ?_; intro w6 hb6 hs6 hz6 hB6; have hF6 := HF.out.below (HB5.out.trans (hB6 _ HG5.out)); have HF6 := Lib.hid hF6; have d0 := (blk_cell hb6 0).trans (Eq.refl (some (Value.int .i64 xd))); have d2 := (blk_cell hb6 2).trans (Eq.refl (some (Value.float .f64 f))); have d5 := (blk_cell hb6 5).trans (Eq.refl (some (Value.int .i64 xn))); have hcb := (blk_cell hF6.box 0).trans (Eq.refl (some (Value.slice Au xs.length cu))); have BK6 := Lib.hid hb6; clear hb6 hs6 hz6 hB6 hF6) | (go_at_call 21; refine (place_calls xs Au cu _ f _ HF6.out.row).mono ?_; rw [hpl]; rintro e w_ ⟨rfl, rfl⟩) | (go_at_call 23; refine (IxF.find_none f xs _ g m v _ HF6.out.I HI.out).mono ?_; rintro e w9 ⟨rfl, rfl⟩))
            go_quiet ((first | (go_at_call 26; exact Calls.quiet_of_same (IxF.len_calls _ _ g m _ _ (idx_move HF6.out.I (fun _ _ _ => rfl))))))
            go_wp2_with fail
            go_roundw
            case rel => exact ⟨k + 1, _, _, xs, hlt, by go_num, by have := HXK.out; omega, HF6.out.drew _⟩
            case measure => simp [intOf]; omega
          · have HI := Lib.hid hi
            have HIL := Lib.hid hil
            have hi0 : decide (0 ≤ (i : Int)) = true := decide_eq_true (by omega)
            have hib : (i : Int) < 1001 := by omega
            clear hi hil
            go_wp2_with (first | ((with_reducible refine gate_dst (N := 6) rfl ?_); refine box_event rfl (N := 6) rfl (cs := #[.int .i64 0, .string ⟨#[]⟩, .float .f64 0, .int .i64 0, .int .i64 0, .int .i64 0, .int .i64 0]) (t := 50) ?hr ?_; (case hr => first | (go_simp; done) | (go_simp; rfl)); intro g0 hg w5 hb0 hbel; have HB5 := Lib.hid hbel; have HG5 := Lib.hid (show wr.heap.size ≤ g0 by rw [hg]; exact Nat.le_refl _); have BK := Lib.hid hb0; clear hg hb0 hbel) | ((with_reducible refine gate_ (.store 50 (.tmp 6) (.tmp 30)) rfl ?_); refine bstore (t := 50) (p := 6) (v := .tmp 30) rfl rfl rfl g0 _ #[.int .i64 xd, .string xs_, .float .f64 f, .int .i64 p0, .int .i64 p1, .int .i64 xn, .int .i64 xm] (.agg #[.int .i64 xd, .string xs_, .float .f64 f, .int .i64 p0, .int .i64 p1, .int .i64 xn, .int .i64 xm]) rfl rfl rfl BK.out size50 rfl (by simp [Value.oneCell']) ?_; intro w6 hb6 hs6 hz6 hB6; have hF6 := HF.out.below (HB5.out.trans (hB6 _ HG5.out)); have HF6 := Lib.hid hF6; have d0 := (blk_cell hb6 0).trans (Eq.refl (some (Value.int .i64 xd))); have d2 := (blk_cell hb6 2).trans (Eq.refl (some (Value.float .f64 f))); have d5 := (blk_cell hb6 5).trans (Eq.refl (some (Value.int .i64 xn))); have hcb := (blk_cell hF6.box 0).trans (Eq.refl (some (Value.slice Au xs.length cu))); have BK6 := Lib.hid hb6; clear hb6 hs6 hz6 hB6 hF6) | (go_at_call 21; refine (place_calls xs Au cu _ f _ HF6.out.row).mono ?_; rw [hpl]; rintro e w_ ⟨rfl, rfl⟩) | (go_at_call 23; refine (IxF.find_found f xs i _ g m v _ HF6.out.I HI.out HIL.out).mono ?_; rintro e w9 ⟨rfl, rfl⟩))
            go_quiet ((first | (go_at_call 26; exact Calls.quiet_of_same (IxF.len_calls _ _ g m _ _ (idx_move HF6.out.I (fun _ _ _ => rfl))))))
            go_wp2_with fail
            go_roundw
            case rel => exact ⟨k + 1, _, _, xs, hlt, by go_num, by have := HXK.out; omega, HF6.out.drew _⟩
            case measure => simp [intOf]; omega
        · have hd2 : (xd == 2) = false := beq_eq_false_iff_ne.2 hd0'
          by_cases hd0'' : xd = 3
          · have hd3 : (xd == 3) = true := beq_iff_eq.2 hd0''
            clear hd0 hd0' hd0''
            by_cases hlo : xn < 1
            · have HAT := Lib.hid (fun W h => at_low xn xs w.heap.size g m v W h hlo)
              have hn1 : decide (1 ≤ xn) = false := decide_eq_false (by omega)
              clear hlo
              go_wp2_with (first | ((with_reducible refine gate_dst (N := 6) rfl ?_); refine box_event rfl (N := 6) rfl (cs := #[.int .i64 0, .string ⟨#[]⟩, .float .f64 0, .int .i64 0, .int .i64 0, .int .i64 0, .int .i64 0]) (t := 50) ?hr ?_; (case hr => first | (go_simp; done) | (go_simp; rfl)); intro g0 hg w5 hb0 hbel; have HB5 := Lib.hid hbel; have HG5 := Lib.hid (show wr.heap.size ≤ g0 by rw [hg]; exact Nat.le_refl _); have BK := Lib.hid hb0; clear hg hb0 hbel) | ((with_reducible refine gate_ (.store 50 (.tmp 6) (.tmp 30)) rfl ?_); refine bstore (t := 50) (p := 6) (v := .tmp 30) rfl rfl rfl g0 _ #[.int .i64 xd, .string xs_, .float .f64 f, .int .i64 p0, .int .i64 p1, .int .i64 xn, .int .i64 xm] (.agg #[.int .i64 xd, .string xs_, .float .f64 f, .int .i64 p0, .int .i64 p1, .int .i64 xn, .int .i64 xm]) rfl rfl rfl BK.out size50 rfl (by simp [Value.oneCell']) ?_; intro w6 hb6 hs6 hz6 hB6; have hF6 := HF.out.below (HB5.out.trans (hB6 _ HG5.out)); have HF6 := Lib.hid hF6; have d0 := (blk_cell hb6 0).trans (Eq.refl (some (Value.int .i64 xd))); have d2 := (blk_cell hb6 2).trans (Eq.refl (some (Value.float .f64 f))); have d5 := (blk_cell hb6 5).trans (Eq.refl (some (Value.int .i64 xn))); have hcb := (blk_cell hF6.box 0).trans (Eq.refl (some (Value.slice Au xs.length cu))); have BK6 := Lib.hid hb6; clear hb6 hs6 hz6 hB6 hF6) | (go_at_call 21; refine (place_calls xs Au cu _ f _ HF6.out.row).mono ?_; rintro e w_ ⟨rfl, rfl⟩) | (go_at_call 24; refine (HAT.out _ HF6.out.I).mono ?_; rintro e w9 ⟨rfl, rfl⟩))
              go_quiet ((first | (go_at_call 26; exact Calls.quiet_of_same (IxF.len_calls _ _ g m _ _ (idx_move HF6.out.I (fun _ _ _ => rfl))))))
              go_wp2_with fail
              go_roundw
              case rel => exact ⟨k + 1, _, _, xs, hlt, by go_num, by have := HXK.out; omega, HF6.out.drew _⟩
              case measure => simp [intOf]; omega
            · by_cases hhi : (xs.length : Int) < xn
              · have HAT := Lib.hid (fun W h => at_high xn xs w.heap.size g m v W h hhi)
                have hn1 : decide (1 ≤ xn) = true := decide_eq_true (by omega)
                have hn2 : decide (xn ≤ (xs.length : Int)) = false := decide_eq_false (by omega)
                clear hlo hhi
                go_wp2_with (first | ((with_reducible refine gate_dst (N := 6) rfl ?_); refine box_event rfl (N := 6) rfl (cs := #[.int .i64 0, .string ⟨#[]⟩, .float .f64 0, .int .i64 0, .int .i64 0, .int .i64 0, .int .i64 0]) (t := 50) ?hr ?_; (case hr => first | (go_simp; done) | (go_simp; rfl)); intro g0 hg w5 hb0 hbel; have HB5 := Lib.hid hbel; have HG5 := Lib.hid (show wr.heap.size ≤ g0 by rw [hg]; exact Nat.le_refl _); have BK := Lib.hid hb0; clear hg hb0 hbel) | ((with_reducible refine gate_ (.store 50 (.tmp 6) (.tmp 30)) rfl ?_); refine bstore (t := 50) (p := 6) (v := .tmp 30) rfl rfl rfl g0 _ #[.int .i64 xd, .string xs_, .float .f64 f, .int .i64 p0, .int .i64 p1, .int .i64 xn, .int .i64 xm] (.agg #[.int .i64 xd, .string xs_, .float .f64 f, .int .i64 p0, .int .i64 p1, .int .i64 xn, .int .i64 xm]) rfl rfl rfl BK.out size50 rfl (by simp [Value.oneCell']) ?_; intro w6 hb6 hs6 hz6 hB6; have hF6 := HF.out.below (HB5.out.trans (hB6 _ HG5.out)); have HF6 := Lib.hid hF6; have d0 := (blk_cell hb6 0).trans (Eq.refl (some (Value.int .i64 xd))); have d2 := (blk_cell hb6 2).trans (Eq.refl (some (Value.float .f64 f))); have d5 := (blk_cell hb6 5).trans (Eq.refl (some (Value.int .i64 xn))); have hcb := (blk_cell hF6.box 0).trans (Eq.refl (some (Value.slice Au xs.length cu))); have BK6 := Lib.hid hb6; clear hb6 hs6 hz6 hB6 hF6) | (go_at_call 21; refine (place_calls xs Au cu _ f _ HF6.out.row).mono ?_; rintro e w_ ⟨rfl, rfl⟩) | (go_at_call 24; refine (HAT.out _ HF6.out.I).mono ?_; rintro e w9 ⟨rfl, rfl⟩))
                go_quiet ((first | (go_at_call 26; exact Calls.quiet_of_same (IxF.len_calls _ _ g m _ _ (idx_move HF6.out.I (fun _ _ _ => rfl))))))
                go_wp2_with fail
                go_roundw
                case rel => exact ⟨k + 1, _, _, xs, hlt, by go_num, by have := HXK.out; omega, HF6.out.drew _⟩
                case measure => simp [intOf]; omega
              · obtain ⟨j, rfl⟩ : ∃ j : Nat, xn = (j : Int) + 1 := ⟨(xn - 1).toNat, by omega⟩
                have hjl : j < xs.length := by omega
                obtain ⟨z, hz⟩ : ∃ z, z = rdOf (0 : Nat) xs (j : Int) := ⟨_, rfl⟩
                have HAT := Lib.hid (fun W h => at_found ((j : Int) + 1) xs w.heap.size g m v W h (by omega) (by omega))
                rw [show (j : Int) + 1 - 1 = j from by omega, ← hz] at HAT
                obtain ⟨b, rfl, _⟩ := row_cell HF.out.row j hjl
                have HJ := Lib.hid hjl
                have HZ := Lib.hid hz
                have hn1 : decide (1 ≤ (j : Int) + 1) = true := decide_eq_true (by omega)
                have hn2 : decide ((j : Int) + 1 ≤ (xs.length : Int)) = true := decide_eq_true (by omega)
                have hjb : (j : Int) < (xs.length : Int) := by omega
                clear hlo hhi hz hjl
                go_wp2_with (first | ((with_reducible refine gate_dst (N := 6) rfl ?_); refine box_event rfl (N := 6) rfl (cs := #[.int .i64 0, .string ⟨#[]⟩, .float .f64 0, .int .i64 0, .int .i64 0, .int .i64 0, .int .i64 0]) (t := 50) ?hr ?_; (case hr => first | (go_simp; done) | (go_simp; rfl)); intro g0 hg w5 hb0 hbel; have HB5 := Lib.hid hbel; have HG5 := Lib.hid (show wr.heap.size ≤ g0 by rw [hg]; exact Nat.le_refl _); have BK := Lib.hid hb0; clear hg hb0 hbel) | ((with_reducible refine gate_ (.store 50 (.tmp 6) (.tmp 30)) rfl ?_); refine bstore (t := 50) (p := 6) (v := .tmp 30) rfl rfl rfl g0 _ #[.int .i64 xd, .string xs_, .float .f64 f, .int .i64 p0, .int .i64 p1, .int .i64 ((j : Int) + 1), .int .i64 xm] (.agg #[.int .i64 xd, .string xs_, .float .f64 f, .int .i64 p0, .int .i64 p1, .int .i64 ((j : Int) + 1), .int .i64 xm]) rfl rfl rfl BK.out size50 rfl (by simp [Value.oneCell']) ?_; intro w6 hb6 hs6 hz6 hB6; have hF6 := HF.out.below (HB5.out.trans (hB6 _ HG5.out)); have HF6 := Lib.hid hF6; have d0 := (blk_cell hb6 0).trans (Eq.refl (some (Value.int .i64 xd))); have d2 := (blk_cell hb6 2).trans (Eq.refl (some (Value.float .f64 f))); have d5 := (blk_cell hb6 5).trans (Eq.refl (some (Value.int .i64 ((j : Int) + 1)))); have hcb := (blk_cell hF6.box 0).trans (Eq.refl (some (Value.slice (some ⟨b, 0, none⟩) xs.length cu))); obtain ⟨b_, hb_, hcx⟩ := row_cell hF6.row j HJ.out; injection hb_ with hb_; injection hb_ with hb_; subst hb_; rw [← HZ.out] at hcx; have BK6 := Lib.hid hb6; clear hb6 hs6 hz6 hB6 hF6) | (go_at_call 21; refine (place_calls xs (some ⟨b, 0, none⟩) cu _ f _ HF6.out.row).mono ?_; rintro e w_ ⟨rfl, rfl⟩) | (go_at_call 24; refine (HAT.out _ HF6.out.I).mono ?_; rintro e w9 ⟨rfl, rfl⟩) | (go_at_call 25; refine (alike_calls z z _).mono ?_; rw [alk_refl]; rintro e w10 ⟨rfl, rfl⟩))
                go_quiet ((first | (go_at_call 26; exact Calls.quiet_of_same (IxF.len_calls _ _ g m _ _ (idx_move HF6.out.I (fun _ _ _ => rfl))))))
                go_wp2_with fail
                go_roundw
                case rel => exact ⟨k + 1, _, _, xs, hlt, by go_num, by have := HXK.out; omega, HF6.out.drew _⟩
                case measure => simp [intOf]; omega
          · have hd3 : (xd == 3) = false := beq_eq_false_iff_ne.2 hd0''
            clear hd0 hd0' hd0''
            go_wp2_with (first | ((with_reducible refine gate_dst (N := 6) rfl ?_); refine box_event rfl (N := 6) rfl (cs := #[.int .i64 0, .string ⟨#[]⟩, .float .f64 0, .int .i64 0, .int .i64 0, .int .i64 0, .int .i64 0]) (t := 50) ?hr ?_; (case hr => first | (go_simp; done) | (go_simp; rfl)); intro g0 hg w5 hb0 hbel; have HB5 := Lib.hid hbel; have HG5 := Lib.hid (show wr.heap.size ≤ g0 by rw [hg]; exact Nat.le_refl _); have BK := Lib.hid hb0; clear hg hb0 hbel) | ((with_reducible refine gate_ (.store 50 (.tmp 6) (.tmp 30)) rfl ?_); refine bstore (t := 50) (p := 6) (v := .tmp 30) rfl rfl rfl g0 _ #[.int .i64 xd, .string xs_, .float .f64 f, .int .i64 p0, .int .i64 p1, .int .i64 xn, .int .i64 xm] (.agg #[.int .i64 xd, .string xs_, .float .f64 f, .int .i64 p0, .int .i64 p1, .int .i64 xn, .int .i64 xm]) rfl rfl rfl BK.out size50 rfl (by simp [Value.oneCell']) ?_; intro w6 hb6 hs6 hz6 hB6; have hF6 := HF.out.below (HB5.out.trans (hB6 _ HG5.out)); have HF6 := Lib.hid hF6; have d0 := (blk_cell hb6 0).trans (Eq.refl (some (Value.int .i64 xd))); have d2 := (blk_cell hb6 2).trans (Eq.refl (some (Value.float .f64 f))); have d5 := (blk_cell hb6 5).trans (Eq.refl (some (Value.int .i64 xn))); have hcb := (blk_cell hF6.box 0).trans (Eq.refl (some (Value.slice Au xs.length cu))); have BK6 := Lib.hid hb6; clear hb6 hs6 hz6 hB6 hF6) | (go_at_call 21; refine (place_calls xs Au cu _ f _ HF6.out.row).mono ?_; rintro e w_ ⟨rfl, rfl⟩))
            go_quiet ((first | (go_at_call 26; exact Calls.quiet_of_same (IxF.len_calls _ _ g m _ _ (idx_move HF6.out.I (fun _ _ _ => rfl))))))
            go_wp2_with fail
            go_roundw
            case rel => exact ⟨k + 1, _, _, xs, hlt, by go_num, by have := HXK.out; omega, HF6.out.drew _⟩
            case measure => simp [intOf]; omega
    · obtain rfl : k = L := by omega
      obtain ⟨Av, cv, rfl⟩ := own_slice hF.I.row
      have HF := Lib.hid hF
      clear hF hlt hk
      go_wp2_with fail
      refine (IxF.all_calls xs w.heap.size g m cv Av _ (idx_move HF.out.I (fun i hi _ => heap_old _ _ hi))).mono ?_
      rintro e w5 ⟨rfl, hb5, hz5, hB5⟩
      rw [size_new] at hb5 hz5
      have hkb : w5.heap[wr.heap.size]? = some (.cells #[.int .i64 0] 3 (0, 0)) := (hB5.block _ (by rw [size_new]; omega)).trans (heap_new _ _)
      have hBe : Below wr.heap.size wr w5 := ((Below.refl _ wr).alloc (Nat.le_refl _) _).trans (hB5.mono (by rw [size_new]; omega))
      have HF5 := Lib.hid (HF.out.below hBe)
      have HB5 := Lib.hid hb5
      have HK5 := Lib.hid hkb
      have HZ5 := Lib.hid hz5
      have HW := Lib.hid (show w.heap.size ≤ wr.heap.size from HF.out.b.size)
      clear hb5 hB5 hkb hz5 hBe
      go_wp2_with fail
      refine (wpIn_wide (n := 5)).1 ?_
      refine wpIn_rangeFunc_ownF (F := Fence.wide) (n := 5) rfl (by omega) (gf := 40) (lb := #[.pointer (some ⟨wr.heap.size + 1, 0, none⟩)]) rfl trivial (enters_of Try.func40 (by kernel_rfl) rfl)
        (IxF.all_stops Fence.wide 4 trivial rfl (by omega) (wr.heap.size + 1) w.heap.size Av cv xs w5 HB5.out HF5.out.I.row) keepB_t (keepB_b (ownD_lt HF5.out.I.row (by rw [HZ5.out]; omega))) (Below.refl _ _) (fun _ => rfl)
        (It w w5 wr.heap.size) (fun _ pre _ => ∀ j, pre ≠ upto xs j) (It_own (by rw [HZ5.out]; omega) (by have := HW.out; rw [HZ5.out]; omega)) (fun _ => ownFrom_pure _ _) ⟨HK5.out, fun _ _ _ => rfl, HF5.out.b⟩
        (fun x => { tmps := #[Value.slice A k c, undef, Value.pointer (some ⟨r0, 0, none⟩), Value.pointer (some ⟨g, 0, none⟩), Value.pointer (some ⟨bl, 0, none⟩), Value.int IntKind.i64 ↑k, u6, u7, u8, u9, u10, u11, u12, Value.pointer (some ⟨wr.heap.size, 0, none⟩), Value.int IntKind.i64 ((x.1 : Int) + 1), Value.float .f64 x.2, Value.pointer (some ⟨g, 0, none⟩), Value.pointer (some ⟨g, 0, none⟩), Value.bool false, Value.slice A x0.length c, Value.slice A k c, Value.int IntKind.i64 ↑k, Value.slice A k c, Value.int IntKind.i64 ↑k, Value.bool false, u25, u26, u27, u28, u29, u30, u31, u32, u33, u34, u35, u36, u37, u38, u39, u40, u41, u42, u43, u44, u45, u46, u47, u48, u49, u50, u51, u52, u53, u54, u55, u56, u57, u58, u59, u60, u61, u62, u63, u64, u65, u66, u67, u68, u69, u70, u71, u72, u73, u74, u75, u76, u77, u78, u79, u80, u81, u82, u83, u84, u85, u86, u87, u88, u89, u90, u91, u92, u93, u94, u95, u96, u97, u98, u99, u100, u101, u102, u103, u104, u105, u106, u107, u108, u109, u110, u111, u112, u113, u114, u115, u116, u117, u118, u119, u120, u121, u122, u123, Value.pointer (some ⟨g, 0, none⟩), Value.func (Fn.func 40) #[] #[Value.pointer (some ⟨wr.heap.size + 1, 0, none⟩)], Value.int IntKind.i64 ((x.1 : Int) + 1), Value.float .f64 x.2, undef, undef, undef, undef, undef, undef, undef, undef, undef, undef, undef, undef, undef, undef, undef, undef, undef, undef, undef, undef, undef, undef, undef, undef, undef], defers := [] }) ?assign ?body ?done ?stop
      case assign =>
        intro l x W K hK
        gi_wp2
        exact hK
      case body =>
        rintro l pre x W ⟨hk0, hsame, hbw⟩ hpl
        have hkl : wr.heap.size < w5.heap.size := by rw [HZ5.out]; omega
        have hold : ∀ i o, wr.heap[i]? = some o → W.heap[i]? = w5.heap[i]? := fun i o h => hsame i (by have := lt_of_get h; omega) (by have := lt_of_get h; omega)
        have c13 := (blk_cell hk0 0).trans (Eq.refl (some (Value.int .i64 (pre.length : Int))))
        have f13 := blk_frozen hk0 0
        have hbx := (hold _ _ HF.out.box).trans HF5.out.box
        have c4 := (blk_cell hbx 0).trans (Eq.refl (some (Value.slice Au xs.length cu)))
        have hrs := (hold _ _ HF.out.res).trans HF5.out.res
        have c2 := (blk_cell hrs 0).trans (Eq.refl (some (Value.bool false)))
        have f2 := blk_frozen hrs 0
        have hrow : W.ownsRow w.heap.size 47 1 (.slice Au xs.length cu) xs.length (encs (Value.float .f64) xs) := own_heap HF5.out.row (fun i hi => hsame i (own_lt HF5.out.row i hi) (by have := own_lt HF.out.row i hi; omega))
        obtain ⟨b, rfl, hcell⟩ := row_cell hrow pre.length hpl
        obtain ⟨y, hy⟩ : ∃ y, y = rdOf (0 : Nat) xs (pre.length : Int) := ⟨_, rfl⟩
        rw [← hy] at hcell
        obtain ⟨x1, x2⟩ := x
        obtain ⟨p, hp⟩ : ∃ p, p = pre.length := ⟨_, rfl⟩
        have HP := Lib.hid hp
        have HI := Lib.hid (show It w w5 wr.heap.size pre W from ⟨hk0, hsame, hbw⟩)
        rw [← hp] at c13 hcell hy
        have hp1 : (p : Int) < xs.length := by omega
        have hp2 : (xs.length : Int) ≤ 1000 := by have := hxk; omega
        have hne : ∀ j, x1 ≠ p ∨ alk x2 y = false → pre ++ [(x1, x2)] ≠ upto xs j := fun j hor e => by
          have := upto_last e
          rw [← HP.out, ← hy] at this
          injection this with e1 e2
          rcases hor with h | h
          · exact h e1
          · rw [e2, alk_refl] at h; cases h
        have HNE := Lib.hid hne
        have HRS := Lib.hid hrs
        clear hk0 hsame hbw hkl hold hbx hrs hrow hpl hy hp hne
        by_cases h1 : x1 = p
        · subst h1
          cases h2 : alk x2 y
          · gi_wp2_with (first | (refine ⟨trivial, ?_⟩; gi_at_call 25; refine (CallsIn.inRound l (callsIn_wide.2 (alike_calls x2 y _))).mono ?_; rw [h2]; rintro e w10 ⟨rfl, rfl⟩))
            exact ⟨KeepsOthers.setCell _ _ _, fun j => HNE.out j (.inr h2)⟩
          · gi_wp2_with (first | (refine ⟨trivial, ?_⟩; gi_at_call 25; refine (CallsIn.inRound l (callsIn_wide.2 (alike_calls x2 y _))).mono ?_; rw [h2]; rintro e w10 ⟨rfl, rfl⟩))
            exact ⟨KeepsOthers.setCell _ _ _, It_keep (ownD_lt HF.out.I.row (Nat.lt_of_le_of_lt (Nat.zero_le _) (lt_of_get HF.out.I.blk))), It_next HI.out HP.out HW.out⟩
        · have h3 : ((x1 : Int) + 1 != (p : Int) + 1) = true := by rw [bne_iff_ne]; omega
          gi_wp2_with fail
          refine ⟨trivial, ?_⟩
          gi_wp2_with fail
          exact ⟨KeepsOthers.setCell _ _ _, fun j => HNE.out j (.inl h1)⟩
      case done =>
        rintro D ys W hD rfl ⟨hk0, hsame, hbw⟩ hK
        have hkl : wr.heap.size < w5.heap.size := by rw [HZ5.out]; omega
        have hold : ∀ i o, wr.heap[i]? = some o → W.heap[i]? = w5.heap[i]? := fun i o h => hsame i (by have := lt_of_get h; omega) (by have := lt_of_get h; omega)
        rw [upto_length] at hk0
        have c13 := (blk_cell hk0 0).trans (Eq.refl (some (Value.int .i64 (xs.length : Int))))
        have hbx := (hold _ _ HF.out.box).trans HF5.out.box
        have c4 := (blk_cell hbx 0).trans (Eq.refl (some (Value.slice Au xs.length cu)))
        have hrs := (hold _ _ HF.out.res).trans HF5.out.res
        have c2 := (blk_cell hrs 0).trans (Eq.refl (some (Value.bool false)))
        have f2 := blk_frozen hrs 0
        have HRS := Lib.hid hrs
        have HD := Lib.hid hD
        have HBW := Lib.hid hbw
        have HKD := Lib.hid hK
        clear hk0 hsame hbw hkl hold hbx hrs hD hK
        go_wp2_with fail
        have hKD := (KeepsOthers.setCell W ⟨r0, 0, none⟩ (Value.bool true)).same D _ HKD.out rfl
        have hne : r0 ≠ D := by
          rintro rfl
          have := HRS.out.symm.trans HKD.out
          cases this
        have hr3 : ((W.setCell ⟨r0, 0, none⟩ (.bool true)).putObj D (.deferred none)).heap[r0]? = some (.cells #[.bool true] 4 (0, 0)) := (World.putObj_heap_other hne).trans (blk_set HRS.out 0 (.bool true))
        refine ⟨by simp, .inl ⟨_, _, rfl, run_takeDeferred hKD, ?_⟩⟩
        have hr4 := (blk_cell hr3 0).trans (Eq.refl (some (Value.bool true)))
        refine ⟨.bool true, by simp [results, Try.results6, go_sem, hr4, asAddr], rfl, ?_⟩
        exact (HBW.out.setCell (p := ⟨r0, 0, none⟩) HF.out.hr0 _).trans (belowK_b (w := w) (Nat.le_refl _) _ D _ _ (by have := HD.out; have := HW.out; rw [HZ5.out] at *; omega) hKD rfl rfl)
      case stop =>
        rintro D c pre W _ ⟨j, _, hj⟩ h _
        exact absurd hj (h j)
end Go.Proofs.Ytaeijlkogenblaa.Nf
