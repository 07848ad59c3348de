/- NamesPairs: the walk. Conditions: the script reads as it must. -/
import Derived.Test.YtaeijlkogenblaaNx
import Derived.Test.YtaeijlkogenblaaWQr
namespace Go.Proofs.Ytaeijlkogenblaa.Np
open Go.RowKit Go.Shelf Go.Proofs.YtaeijlkogenblaaW.Raw Go.Proofs.YtaeijlkogenblaaW.PrintWords Go.Proofs.Ytaeijlkogenblaa.IxP
open Go.Proofs.Ytaeijlkogenblaa.Nf (Stp kSt zSt cellsOf at_st first_calls)
set_option linter.unusedVariables false
set_option linter.unusedSimpArgs false
attribute [local go_sem] Oper.semAt_some
attribute [local go_sem high] eqP
theorem size50 : (Try.prog.info? 50).map (·.size) = some 7 := by kernel_rfl
theorem size68 : (Try.prog.info? 68).map (·.size) = some 1 := by kernel_rfl
theorem idx_less {w : World} {base base' g m : Nat} {v : Value} {xs : List (Int × Int)} (h : Idx w base' g m v xs) (hle : base ≤ base') : Idx w base g m v xs :=
  ⟨h.blk, h.raw, own_less h.row hle, Nat.le_trans hle h.hg, Nat.le_trans hle h.hm⟩
def RI (w : World) (g m bl r0 g0 : Nat) (v u : Value) (xs : List (Int × Int)) (C : Array Value) (wq : World) : Prop := Fp w wq g m bl r0 v u u xs xs ∧ wq.heap[g0]? = some (.cells C 50 (0, 0))
theorem any_drewC {P : Program} {c : Code} {Q : Exit → Act → World → Prop} {a : Act} {w1 : World} (h : ∀ w2, (∃ n, w2 = w1.drewN n) → Code.wp P c Q a w2) (n : Nat) : Code.wp P c Q a (w1.drewN n) := h _ ⟨n, rfl⟩
theorem RI.drew {w wq : World} {g m bl r0 g0 : Nat} {v u : Value} {xs : List (Int × Int)} {C : Array Value} (h : RI w g m bl r0 g0 v u xs C wq) (n : Nat) : RI w g m bl r0 g0 v u xs C (wq.drewN n) := ⟨h.1.drew n, h.2⟩
theorem RI.below {w wq wq' : World} {g m bl r0 g0 : Nat} {v u : Value} {xs : List (Int × Int)} {C : Array Value} (h : RI w g m bl r0 g0 v u xs C wq) (hb : Below wq.heap.size wq wq') : RI w g m bl r0 g0 v u xs C wq' := ⟨h.1.below hb, (hb.block g0 (lt_of_get h.2)).trans h.2⟩
theorem keepsFrom_below {B : Nat} {W W' : World} (h : Below W.heap.size W W') : KeepsFrom B W W' :=
  ⟨h.size, fun k o _ hk _ => (h.block k (Array.getElem?_eq_some_iff.1 hk).1).trans hk⟩
theorem kf_set (B : Nat) (W : World) (n : Nat) (a : Addr) (v : Value) : KeepsFrom B W ((W.drewN n).setCell a v) := by
  have h := (KeepsOthers.setCell (W.drewN n) a v).from B
  exact ⟨h.size, fun k o hB hk ho => h.same k o hB hk ho⟩
def Itp (w w5 : World) (kb : Nat) (pre : List (Nat × (Int × Int))) (W : World) : Prop := W.heap[kb]? = some (.cells #[.int .i64 pre.length] 3 (0, 0)) ∧ (∀ i, i < w5.heap.size → i ≠ kb → W.heap[i]? = w5.heap[i]?) ∧ Below w.heap.size w W ∧ w5.heap.size ≤ W.heap.size
theorem Itp_own {w w5 : World} {kb : Nat} (h : kb < w5.heap.size) (hw : w.heap.size ≤ w5.heap.size) : OwnFrom w5.heap.size (Itp w w5 kb) := fun s X Y row hs hg hr =>
  ⟨(hg.block kb (lt_of_get hs.1) (fun e => by have := (hr _ e.symm).1; omega)).trans hs.1, fun i hi hn => by
    have e := hs.2.1 i hi hn
    exact (hg.block i (by have := hs.2.2.2; omega) (fun e => by have := (hr _ e.symm).1; omega)).trans e, hs.2.2.1.grown hg hs.2.2.1.size (fun j e => by have := (hr j e).1; omega), Nat.le_trans hs.2.2.2 hg.size⟩
theorem Itp_below {w w5 W W' : World} {kb : Nat} {pre : List (Nat × (Int × Int))} (h : Itp w w5 kb pre W) (hb : Below W.heap.size W W') : Itp w w5 kb pre W' :=
  ⟨(hb.block kb (lt_of_get h.1)).trans h.1, fun i hi hn => (hb.block i (by have := h.2.2.2; omega)).trans (h.2.1 i hi hn), h.2.2.1.trans (hb.mono h.2.2.1.size), Nat.le_trans h.2.2.2 hb.size⟩
theorem Itp_next {w w5 W : World} {kb : Nat} {pre : List (Nat × (Int × Int))} {x : Nat × (Int × Int)} {p : Nat} (h : Itp w w5 kb pre W) (hp : p = pre.length) (hw : w.heap.size ≤ kb) (n : Nat) : Itp w w5 kb (pre ++ [x]) ((W.drewN n).setCell ⟨kb, 0, none⟩ (.int .i64 ((p : Int) + 1))) := by
  subst hp
  have h2 : Itp w w5 kb pre (W.drewN n) := Itp_below h (pw_below_drewN (Below.refl _ _) n)
  refine ⟨?_, fun i hi hn => (Below.heap_setCell _ _ _ _ hn).trans (h2.2.1 i hi hn), h2.2.2.1.setCell (p := ⟨kb, 0, none⟩) hw _, ?_⟩
  · have := blk_set h2.1 0 (.int .i64 ((pre.length : Int) + 1))
    rw [this]
    simp
  · have := h2.2.2.2
    simpa [World.setCell] using this
theorem keep_set {D kb : Nat} {W : World} {u : Value} (n : Nat) (h : D < kb) : keepB D W ((W.drewN n).setCell ⟨kb, 0, none⟩ u) := Below.heap_setCell (W.drewN n) _ _ _ (fun e => by have e' : D = kb := e; omega)
theorem upto_last {xs : List (Int × Int)} {pre : List (Nat × (Int × Int))} {x : Nat × (Int × Int)} {j : Nat} (h : pre ++ [x] = upto xs j) : x = (pre.length, xs.getD pre.length (0, 0)) := by
  have hl := congrArg List.length h
  rw [upto_length, List.length_append, List.length_singleton] at hl
  subst hl
  rw [upto_succ] at h
  exact (List.cons.inj (List.append_inj_right' h rfl)).1
theorem ownD_lt {w : World} {base n size : Nat} {e : TypeId} {v : Value} {xs : List Value} (h : w.ownsRow base e size v n xs) (hB : 0 < w.heap.size) : v.ownBlock.getD 0 < w.heap.size := by
  cases hv : v.ownBlock with
  | none => exact hB
  | some b => exact own_lt h b hv
set_option maxHeartbeats 4000000 in
set_option maxRecDepth 100000 in
theorem pairs_walk (x0 : List Stp) (A : Option Addr) (c : Nat) (w : World) (hc : x0.length ≤ c) (hr : Kd.C kSt w A x0.length x0) :
    Calls Try.prog 7 #[.slice A x0.length c] w fun e w' => e = .returned (.bool true) ∧ Below w.heap.size w w' := by
  have HR := Lib.hid hr
  clear hr
  refine callsIn_wide.1 (callsIn_of_wp_marks (F := Fence.wide) (n := 5) Try.func7 rfl trivial (wpIn_wide.2 ?_) rfl)
  simp only [Try.ntmps7, List.size_toArray, List.length_cons, List.length_nil, Nat.reduceAdd, Nat.reduceSub, Array.replicate_succ, Array.replicate_zero, List.push_toArray, List.append_toArray, List.nil_append, List.cons_append]
  go_wp2_with (first | ((with_reducible refine gate_dst (N := 2) rfl ?_); refine box_event rfl (N := 2) rfl (cs := #[.bool false]) (t := 4) ?hr ?_; (case hr => first | (go_simp; done) | (go_simp; rfl)); intro r0 hg w1 hb0 hbel; have HB := Lib.hid hbel; have HG := Lib.hid (show w.heap.size ≤ r0 by rw [hg]; exact Nat.le_refl _); have BR := Lib.hid hb0; clear hg hb0 hbel) | (go_at_call 28; refine (IxP.new_calls _).mono ?_; rintro e w2 ⟨g, m, rfl, hI, hb⟩; have HI := Lib.hid hI; have HB2 := Lib.hid hb; clear hI hb) | (go_at_call 20; refine (first_calls _ _ _ _ hc).mono ?_; rintro e w3 ⟨rfl, rfl⟩) | ((with_reducible refine gate_dst (N := 4) rfl ?_); refine box_event rfl (N := 4) rfl (cs := #[.slice none 0 0]) (t := 68) ?hr ?_; (case hr => first | (go_simp; done) | (go_simp; rfl)); intro bl hg w4 hb0 hbel; have HB4 := Lib.hid hbel; have HG4 := Lib.hid hg; have BL := Lib.hid hb0; clear hg hb0 hbel))
  have hbl : bl = w3.heap.size := HG4.out
  have hF0 : Fp w w4 g m bl r0 (.slice none 0 0) (.slice none 0 0) (.slice none 0 0) [] [] :=
    ⟨idx_less (idx_move HI.out (fun i hi _ => HB4.out.block i hi)) HB.out.size, BL.out, own_nil _ _ _ _, fun b hb => (by cases hb),
      (HB4.out.block _ (Nat.lt_of_lt_of_le (lt_of_get BR.out) HB2.out.size)).trans ((HB2.out.block _ (lt_of_get BR.out)).trans BR.out),
      (HB.out.trans (HB2.out.mono HB.out.size)).trans (HB4.out.mono (Nat.le_trans HB.out.size HB2.out.size)), by rw [hbl]; exact Nat.le_trans HB.out.size HB2.out.size, HG.out⟩
  obtain ⟨L, hL⟩ : ∃ L, L = min x0.length 1000 := ⟨_, rfl⟩
  rw [← hL]
  have hL1 : L ≤ x0.length := by omega
  have hL2 : (L : Int) ≤ 1000 := by omega
  have HF0 := Lib.hid hF0
  have HL1 := Lib.hid hL1
  clear hL hL1 hbl hF0 HI HB2 HB4 HG4 BL HB HG BR hc
  go_loopw [5] (fun i wr => ∃ (k : Nat) (v u : Value) (xs : List (Int × Int)), k ≤ L ∧ i = .int .i64 (k : Nat) ∧ xs.length ≤ k ∧ xs.Nodup ∧ Fp w wr g m bl r0 v u u xs xs) (fun i _ => L - (intOf i).toNat)
  case atStart => exact ⟨0, _, _, [], Nat.zero_le _, rfl, Nat.zero_le _, List.nodup_nil, HF0.out⟩
  case round =>
    obtain ⟨k, v, u, xs, hk, rfl, hxk, hnd, hF⟩ := hrel
    obtain ⟨Au, cu, rfl⟩ := hF.slice
    clear HF0
    by_cases hlt : k < L
    · obtain ⟨ad, eA, hst⟩ := at_st HR.out k (Nat.lt_of_lt_of_le hlt HL1.out)
      subst eA
      obtain ⟨x, hx⟩ : ∃ x, x = x0.getD k zSt := ⟨_, rfl⟩
      rw [← hx] at hst
      have hst' : ∀ j y, (cellsOf x)[j]? = some y → wr.cell? (ad.add (k * 7 + j)) = some y := fun j y hy => pw_cell_below hF.b (hst j y hy)
      have q0 := hst' 0 _ rfl
      have q1 := hst' 1 _ rfl
      have q2 := hst' 2 _ rfl
      have q3 := hst' 3 _ rfl
      have q4 := hst' 4 _ rfl
      have q5 := hst' 5 _ rfl
      have q6 := hst' 6 _ rfl
      have e0 : ad.add (k * 7 + 0) = ad.add (k * 7) := rfl
      rw [e0] at q0
      rw [add_field _ _ _ (by decide)] at q1 q2 q3 q4 q5 q6
      obtain ⟨xd, hxd⟩ : ∃ xd, xd = x.1 := ⟨_, rfl⟩
      obtain ⟨xs_, hxs⟩ : ∃ xs_, xs_ = x.2.1 := ⟨_, rfl⟩
      obtain ⟨xf, hf⟩ : ∃ f, f = x.2.2.1 := ⟨_, rfl⟩
      obtain ⟨p0, hp0⟩ : ∃ p0, p0 = x.2.2.2.1.getD 0 0 := ⟨_, rfl⟩
      obtain ⟨p1, hp1⟩ : ∃ p1, p1 = x.2.2.2.1.getD 1 0 := ⟨_, rfl⟩
      obtain ⟨xn, hxn⟩ : ∃ xn, xn = x.2.2.2.2.1 := ⟨_, rfl⟩
      obtain ⟨xm, hxm⟩ : ∃ xm, xm = x.2.2.2.2.2 := ⟨_, rfl⟩
      rw [← hxd] at q0
      rw [← hxs] at q1
      rw [← hf] at q2
      rw [← hp0] at q3
      rw [← hp1] at q4
      rw [← hxn] at q5
      rw [← hxm] at q6
      have HF := Lib.hid hF
      have hkL : (k : Int) < (L : Int) := by omega
      clear hst hst' hF hxd hxs hf hp0 hp1 hxn hxm hx hk e0
      have hxl : (xs.length : Int) < 1001 := by omega
      have HLB := Lib.hid (show xs.length < 1000 by omega)
      have HXK := Lib.hid hxk
      have HND := Lib.hid hnd
      clear hxk hnd
      go_wp2_with (first | ((with_reducible refine gate_dst (N := 6) rfl ?_); refine box_event rfl (N := 6) rfl (cs := #[.int .i64 0, .string ⟨#[]⟩, .float .f64 0, .int .i64 0, .int .i64 0, .int .i64 0, .int .i64 0]) (t := 50) ?hr ?_; (case hr => first | (go_simp; done) | (go_simp; rfl)); intro g0 hg w5 hb0 hbel; have HB5 := Lib.hid hbel; have HG5 := Lib.hid (show wr.heap.size ≤ g0 by rw [hg]; exact Nat.le_refl _); have BK := Lib.hid hb0; clear hg hb0 hbel) | ((with_reducible refine gate_ (.store 50 (.tmp 6) (.tmp 31)) rfl ?_); go_must (refine IxP.bstore (t := 50) (p := 6) (v := .tmp 31) rfl rfl rfl g0 _ #[.int .i64 xd, .string xs_, .float .f64 xf, .int .i64 p0, .int .i64 p1, .int .i64 xn, .int .i64 xm] (.agg #[.int .i64 xd, .string xs_, .float .f64 xf, .int .i64 p0, .int .i64 p1, .int .i64 xn, .int .i64 xm]) rfl rfl rfl BK.out size50 rfl (by simp [Value.oneCell']) ?_); intro w6 hb6 hs6 hz6 hB6; have HF6 := Lib.hid (HF.out.below (HB5.out.trans (hB6 _ HG5.out))); have BK6 := Lib.hid hb6; clear hb6 hs6 hz6 hB6))
      have HRI := Lib.hid (show RI w g m bl r0 g0 v (.slice Au xs.length cu) xs #[.int .i64 xd, .string xs_, .float .f64 xf, .int .i64 p0, .int .i64 p1, .int .i64 xn, .int .i64 xm] w6 from ⟨HF6.out, BK6.out⟩)
      clear q0 q1 q2 q3 q4 q5 q6 HF HF6 BK6 BK HB5 HG5
      obtain ⟨WO, rfl⟩ : ∃ x, x = wr := ⟨wr, rfl⟩
      go_loopw [7, 8] (fun a j wq => ∃ (q : Nat) (at_ : Int), q ≤ xs.length ∧ a = .int .i64 at_ ∧ j = .int .i64 (q : Nat) ∧ Seen xs (p0, p1) q at_ ∧ RI w g m bl r0 g0 v (.slice Au xs.length cu) xs #[.int .i64 xd, .string xs_, .float .f64 xf, .int .i64 p0, .int .i64 p1, .int .i64 xn, .int .i64 xm] wq) (fun _ j _ => xs.length - (intOf j).toNat)
      case atStart => exact ⟨0, -1, Nat.zero_le _, rfl, rfl, Seen.start _ _, HRI.out⟩
      case round =>
        obtain ⟨q, at_, hq, rfl, rfl, hsn, hri⟩ := hrel
        clear HRI
        have hcb := (blk_cell hri.1.box 0).trans (Eq.refl (some (Value.slice Au xs.length cu)))
        have d0 := (blk_cell hri.2 0).trans (Eq.refl (some (Value.int .i64 xd)))
        have d3 := (blk_cell hri.2 3).trans (Eq.refl (some (Value.int .i64 p0)))
        have d4 := (blk_cell hri.2 4).trans (Eq.refl (some (Value.int .i64 p1)))
        have d5 := (blk_cell hri.2 5).trans (Eq.refl (some (Value.int .i64 xn)))
        by_cases hql : q < xs.length
        · obtain ⟨b, rfl, c0, c1⟩ := row_cell hri.1.row q hql
          obtain ⟨y, hy⟩ : ∃ y, y = xs.getD q (0, 0) := ⟨_, rfl⟩
          have hy2 : xs[q]? = some y := by rw [hy]; simp [List.getD_eq_getElem?_getD, hql]
          rw [← hy] at c0 c1
          have HY := Lib.hid hy2
          have HS := Lib.hid hsn
          have HQ := Lib.hid hql
          have HRI := Lib.hid hri
          have hqi : (q : Int) < (xs.length : Int) := by omega
          clear hy hy2 hsn hri hq hql
          obtain ⟨y0, y1⟩ := y
          have hE : (y0 == p0 && y1 == p1) = true ∨ (y0 == p0 && y1 == p1) = false := by cases (y0 == p0 && y1 == p1) <;> simp
          go_wp2_with fail
          go_quiet (fail)
          rcases hE with hE | hE
          · have hE2 : (y0, y1) = (p0, p1) := by rw [Bool.and_eq_true, beq_iff_eq, beq_iff_eq] at hE; rw [hE.1, hE.2]
            rw [hE]
            have HE := Lib.hid hE2
            clear hE hE2
            go_wp2_with fail
            go_roundw
            case rel => exact ⟨q + 1, _, HQ.out, rfl, by go_num, Seen.hit (by rw [HY.out, HE.out]), HRI.out.drew _⟩
            case measure => simp [intOf]; have := HQ.out; omega
          · have hE2 : (y0, y1) ≠ (p0, p1) := by intro h2; injection h2 with h3 h4; subst h3; subst h4; simp at hE
            rw [hE]
            have HE := Lib.hid hE2
            clear hE hE2
            go_wp2_with fail
            go_roundw
            case rel => exact ⟨q + 1, _, HQ.out, rfl, by go_num, HS.out.miss (by rw [HY.out]; intro h2; injection h2 with h2; exact HE.out h2), HRI.out.drew _⟩
            case measure => simp [intOf]; have := HQ.out; omega
        · obtain rfl : q = xs.length := by omega
          have HRI := Lib.hid hri
          have hcs := hsn.cases HND.out
          clear hsn hri hq hql
          by_cases hd0 : xd = 1
          · have hd1 : (xd == 1) = true := beq_iff_eq.2 hd0
            clear hd0
            rcases hcs with ⟨rfl, hi, hm⟩ | ⟨i, rfl, hil, hi⟩
            · have HI := Lib.hid hi
              have HM := Lib.hid hm
              clear hi hm
              go_wp2_with (first | (at_builtin; go_must (refine print_append_cells w.heap.size rfl _ _ 68 48 (.agg #[.int .i64 0, .int .i64 0]) 2 16 rfl Try.underlying68 IxP.info48 rfl (by decide) (by decide) (.slice Au xs.length cu) xs.length (cel xs) [.int .i64 p0, .int .i64 p1] rfl rfl rfl (by simp [Value.oneCell']) HRI.out.1.row HRI.out.1.b HRI.out.1.b.size (by have := HLB.out; omega) ?_); intro v1 w7 hown hb7 hg7 hat; rw [show xs.length + 1 = (xs ++ [(p0, p1)]).length from by simp, show cel xs ++ [.int .i64 p0, .int .i64 p1] = cel (xs ++ [(p0, p1)]) from by rw [cel_app]; rfl] at hown; have BK7 := Lib.hid ((hg7.block g0 (lt_of_get HRI.out.2) (fun e => own_ne HRI.out.1.row HRI.out.2 (by decide) e)).trans HRI.out.2); have HF7 := Lib.hid (HRI.out.1.app hown hb7 hg7 hat); obtain ⟨A1, c1, hv⟩ := own_slice hown; rw [hv] at HF7; rw [hv]; clear hown hb7 hg7 hat hv hcb d0 d3 d4 d5; rw [show (xs ++ [(p0, p1)]).length = xs.length + 1 by simp] at HF7 ⊢; have BL7 := Lib.hid HF7.out.box) | ((with_reducible refine gate_ (.store 68 (.tmp 4) (.tmp 56)) rfl ?_); go_must (refine IxP.bstore (t := 68) (p := 4) (v := .tmp 56) rfl rfl rfl bl _ #[.slice A1 (xs.length + 1) c1] (.slice A1 (xs.length + 1) c1) rfl rfl rfl BL7.out size68 rfl (by simp [Value.oneCell']) ?_); intro w8 hb8 hs8 hz8 hB8; have HF8 := Lib.hid (HF7.out.put hb8 hs8 hB8); have hcb8 := (blk_cell hb8 0).trans (Eq.refl (some (Value.slice A1 (xs.length + 1) c1))); have hk8 := (hs8 g0 (fun e => blk_ne BK7.out BL7.out (by decide) e)).trans BK7.out; have d38 := (blk_cell hk8 3).trans (Eq.refl (some (Value.int .i64 p0))); have d48 := (blk_cell hk8 4).trans (Eq.refl (some (Value.int .i64 p1))); clear hb8 hs8 hz8 hB8 hk8) | (go_at_call 29; go_must (refine (of_new_fp HF8.out (p0, p1) HI.out (by have := HLB.out; omega)).mono ?_); rintro e w9 ⟨rfl, v9, hF9⟩; have hcb9 := (blk_cell hF9.box 0).trans (Eq.refl (some (Value.slice A1 (xs.length + 1) c1))); have HF9 := Lib.hid hF9; clear hF9 hcb8 d38 d48))
              go_quiet ((first | (go_at_call 32; exact Calls.quiet_of_same (IxP.len_calls _ _ g m _ _ (idx_move HF9.out.I (fun _ _ _ => rfl))))))
              go_wp2_with fail
              go_roundw
              case rel => exact ⟨k + 1, _, _, (xs ++ [(p0, p1)]), hlt, by go_num, by have := HXK.out; simp; omega, nodup_snoc HND.out HM.out, HF9.out.drew _⟩
              case measure => simp [intOf]; omega
            · have HI := Lib.hid hi
              have HIL := Lib.hid hil
              have hi0 : decide ((i : Int) < 0) = false := decide_eq_false (by omega)
              have hib : (i : Int) < 1001 := by omega
              clear hi hil
              go_wp2_with (first | (go_at_call 29; go_must (refine (of_found (p0, p1) xs i _ g m v _ HRI.out.1.I HI.out HIL.out).mono ?_); rintro e w9 ⟨rfl, hb9⟩; have HR9 := Lib.hid (HRI.out.below hb9); have hcb9 := (blk_cell HR9.out.1.box 0).trans (Eq.refl (some (Value.slice Au xs.length cu))); clear hb9 hcb d0 d3 d4 d5))
              go_quiet ((first | (go_at_call 32; exact Calls.quiet_of_same (IxP.len_calls _ _ g m _ _ (idx_move HR9.out.1.I (fun _ _ _ => rfl))))))
              go_wp2_with fail
              go_roundw
              case rel => exact ⟨k + 1, _, _, xs, hlt, by go_num, by have := HXK.out; omega, HND.out, HR9.out.1.drew _⟩
              case measure => simp [intOf]; omega
          · have hd1 : (xd == 1) = false := beq_eq_false_iff_ne.2 hd0
            by_cases hd0' : xd = 2
            · have hd2 : (xd == 2) = true := beq_iff_eq.2 hd0'
              clear hd0 hd0'
              rcases hcs with ⟨rfl, hi, hm⟩ | ⟨i, rfl, hil, hi⟩
              · have HI := Lib.hid hi
                clear hi hm
                go_wp2_with (first | (go_at_call 30; go_must (refine (IxP.find_none (p0, p1) xs _ g m v _ HRI.out.1.I HI.out).mono ?_); rintro e w9 ⟨rfl, hb9⟩; have HR9 := Lib.hid (HRI.out.below hb9); have hcb9 := (blk_cell HR9.out.1.box 0).trans (Eq.refl (some (Value.slice Au xs.length cu))); clear hb9 hcb d0 d3 d4 d5))
                go_quiet ((first | (go_at_call 32; exact Calls.quiet_of_same (IxP.len_calls _ _ g m _ _ (idx_move HR9.out.1.I (fun _ _ _ => rfl))))))
                go_wp2_with fail
                go_roundw
                case rel => exact ⟨k + 1, _, _, xs, hlt, by go_num, by have := HXK.out; omega, HND.out, HR9.out.1.drew _⟩
                case measure => simp [intOf]; omega
              · have HI := Lib.hid hi
                have HIL := Lib.hid hil
                have hi0 : decide (0 ≤ (i : Int)) = true := decide_eq_true (by omega)
                have hib : (i : Int) < 1001 := by omega
                clear hi hil
                go_wp2_with (first | (go_at_call 30; go_must (refine (find_found (p0, p1) xs i _ g m v _ HRI.out.1.I HI.out HIL.out).mono ?_); rintro e w9 ⟨rfl, hb9⟩; have HR9 := Lib.hid (HRI.out.below hb9); have hcb9 := (blk_cell HR9.out.1.box 0).trans (Eq.refl (some (Value.slice Au xs.length cu))); clear hb9 hcb d0 d3 d4 d5))
                go_quiet ((first | (go_at_call 32; exact Calls.quiet_of_same (IxP.len_calls _ _ g m _ _ (idx_move HR9.out.1.I (fun _ _ _ => rfl))))))
                go_wp2_with fail
                go_roundw
                case rel => exact ⟨k + 1, _, _, xs, hlt, by go_num, by have := HXK.out; omega, HND.out, HR9.out.1.drew _⟩
                case measure => simp [intOf]; omega
            · have hd2 : (xd == 2) = false := beq_eq_false_iff_ne.2 hd0'
              by_cases hd0'' : xd = 3
              · have hd3 : (xd == 3) = true := beq_iff_eq.2 hd0''
                have hz : ((0 : Int) == 0 && (0 : Int) == 0) = true := rfl
                clear hd0 hd0' hd0'' hcs
                by_cases hlo : xn < 1
                · have HAT := Lib.hid (fun W h => at_low xn xs w.heap.size g m v W h hlo)
                  have hn1 : decide (1 ≤ xn) = false := decide_eq_false (by omega)
                  clear hlo
                  go_wp2_with (first | (go_at_call 31; go_must (refine (HAT.out _ HRI.out.1.I).mono ?_); rintro e w9 ⟨rfl, hb9⟩; have HR9 := Lib.hid (HRI.out.below hb9); clear hb9 hcb d0 d3 d4 d5) | ((with_reducible refine gate_dst (N := 11) rfl ?_); refine box_event rfl (N := 11) rfl (cs := #[.int .i64 0, .int .i64 0]) (t := 48) ?hr ?_; (case hr => first | (go_simp; done) | (go_simp; rfl)); intro b11 hg w10 hb0 hbel; have HB10 := Lib.hid hbel; have HG10 := Lib.hid (show w9.heap.size ≤ b11 by rw [hg]; exact Nat.le_refl _); have BP := Lib.hid hb0; clear hg hb0 hbel) | ((with_reducible refine gate_ (.store 48 (.tmp 11) (.tmp 93)) rfl ?_); go_must (refine IxP.bstore (t := 48) (p := 11) (v := .tmp 93) rfl rfl rfl b11 _ #[.int .i64 0, .int .i64 0] (.agg #[.int .i64 0, .int .i64 0]) rfl rfl rfl BP.out (by kernel_rfl) rfl (by simp [Value.oneCell']) ?_); intro w11 hb11 hs11 hz11 hB11; have hR11 := HR9.out.below (HB10.out.trans (hB11 _ HG10.out)); have e0 := (blk_cell hb11 0).trans (Eq.refl (some (Value.int .i64 0))); have e1 := (blk_cell hb11 1).trans (Eq.refl (some (Value.int .i64 0))); have hcb9 := (blk_cell hR11.1.box 0).trans (Eq.refl (some (Value.slice Au xs.length cu))); have d5 := (blk_cell hR11.2 5).trans (Eq.refl (some (Value.int .i64 xn))); have HR11 := Lib.hid hR11; clear hb11 hs11 hz11 hB11 hR11))
                  go_quiet (fail)
                  go_wp2_with fail
                  refine any_drewC (w1 := w11) ?_ _
                  rintro w12 ⟨nn, hw12⟩
                  have HR12 := Lib.hid (show RI w g m bl r0 g0 v (.slice Au xs.length cu) xs _ w12 from by rw [hw12]; exact HR11.out.drew nn)
                  have hcb12 := (blk_cell HR12.out.1.box 0).trans (Eq.refl (some (Value.slice Au xs.length cu)))
                  clear hw12 hcb9
                  go_quiet ((first | (go_at_call 32; exact Calls.quiet_of_same (IxP.len_calls _ _ g m _ _ (idx_move HR12.out.1.I (fun _ _ _ => rfl))))))
                  go_wp2_with fail
                  go_roundw
                  case rel => exact ⟨k + 1, _, _, xs, hlt, by go_num, by have := HXK.out; omega, HND.out, HR12.out.1.drew _⟩
                  case measure => simp [intOf]; omega
                · by_cases hhi : (xs.length : Int) < xn
                  · have HAT := Lib.hid (fun W h => at_high xn xs w.heap.size g m v W h hhi)
                    have hn1 : decide (1 ≤ xn) = true := decide_eq_true (by omega)
                    have hn2 : decide (xn ≤ (xs.length : Int)) = false := decide_eq_false (by omega)
                    clear hlo hhi
                    go_wp2_with (first | (go_at_call 31; go_must (refine (HAT.out _ HRI.out.1.I).mono ?_); rintro e w9 ⟨rfl, hb9⟩; have HR9 := Lib.hid (HRI.out.below hb9); clear hb9 hcb d0 d3 d4 d5) | ((with_reducible refine gate_dst (N := 11) rfl ?_); refine box_event rfl (N := 11) rfl (cs := #[.int .i64 0, .int .i64 0]) (t := 48) ?hr ?_; (case hr => first | (go_simp; done) | (go_simp; rfl)); intro b11 hg w10 hb0 hbel; have HB10 := Lib.hid hbel; have HG10 := Lib.hid (show w9.heap.size ≤ b11 by rw [hg]; exact Nat.le_refl _); have BP := Lib.hid hb0; clear hg hb0 hbel) | ((with_reducible refine gate_ (.store 48 (.tmp 11) (.tmp 93)) rfl ?_); go_must (refine IxP.bstore (t := 48) (p := 11) (v := .tmp 93) rfl rfl rfl b11 _ #[.int .i64 0, .int .i64 0] (.agg #[.int .i64 0, .int .i64 0]) rfl rfl rfl BP.out (by kernel_rfl) rfl (by simp [Value.oneCell']) ?_); intro w11 hb11 hs11 hz11 hB11; have hR11 := HR9.out.below (HB10.out.trans (hB11 _ HG10.out)); have e0 := (blk_cell hb11 0).trans (Eq.refl (some (Value.int .i64 0))); have e1 := (blk_cell hb11 1).trans (Eq.refl (some (Value.int .i64 0))); have hcb9 := (blk_cell hR11.1.box 0).trans (Eq.refl (some (Value.slice Au xs.length cu))); have d5 := (blk_cell hR11.2 5).trans (Eq.refl (some (Value.int .i64 xn))); have HR11 := Lib.hid hR11; clear hb11 hs11 hz11 hB11 hR11))
                    go_quiet (fail)
                    go_wp2_with fail
                    refine any_drewC (w1 := w11) ?_ _
                    rintro w12 ⟨nn, hw12⟩
                    have HR12 := Lib.hid (show RI w g m bl r0 g0 v (.slice Au xs.length cu) xs _ w12 from by rw [hw12]; exact HR11.out.drew nn)
                    have hcb12 := (blk_cell HR12.out.1.box 0).trans (Eq.refl (some (Value.slice Au xs.length cu)))
                    clear hw12 hcb9
                    go_quiet ((first | (go_at_call 32; exact Calls.quiet_of_same (IxP.len_calls _ _ g m _ _ (idx_move HR12.out.1.I (fun _ _ _ => rfl))))))
                    go_wp2_with fail
                    go_roundw
                    case rel => exact ⟨k + 1, _, _, xs, hlt, by go_num, by have := HXK.out; omega, HND.out, HR12.out.1.drew _⟩
                    case measure => simp [intOf]; omega
                  · obtain ⟨j, rfl⟩ : ∃ j : Nat, xn = (j : Int) + 1 := ⟨(xn - 1).toNat, by omega⟩
                    have hjl : j < xs.length := by omega
                    obtain ⟨z, hz2⟩ : ∃ z, z = xs.getD j (0, 0) := ⟨_, rfl⟩
                    have HAT := Lib.hid (fun W h => at_found ((j : Int) + 1) xs w.heap.size g m v W h (by omega) (by omega))
                    rw [show ((j : Int) + 1 - 1).toNat = j from by omega, ← hz2] at HAT
                    obtain ⟨b, rfl, _, _⟩ := row_cell HRI.out.1.row j hjl
                    have HJ := Lib.hid hjl
                    have HZ := Lib.hid hz2
                    obtain ⟨z0, z1⟩ := z
                    have hn1 : decide (1 ≤ (j : Int) + 1) = true := decide_eq_true (by omega)
                    have hn2 : decide ((j : Int) + 1 ≤ (xs.length : Int)) = true := decide_eq_true (by omega)
                    have hjb : (j : Int) < (xs.length : Int) := by omega
                    have hzz : (z0 == z0 && z1 == z1) = true := by simp
                    clear hlo hhi hz2 hjl
                    go_wp2_with (first | (go_at_call 31; go_must (refine (HAT.out _ HRI.out.1.I).mono ?_); rintro e w9 ⟨rfl, hb9⟩; have HR9 := Lib.hid (HRI.out.below hb9); clear hb9 hcb d0 d3 d4 d5) | ((with_reducible refine gate_dst (N := 11) rfl ?_); refine box_event rfl (N := 11) rfl (cs := #[.int .i64 0, .int .i64 0]) (t := 48) ?hr ?_; (case hr => first | (go_simp; done) | (go_simp; rfl)); intro b11 hg w10 hb0 hbel; have HB10 := Lib.hid hbel; have HG10 := Lib.hid (show w9.heap.size ≤ b11 by rw [hg]; exact Nat.le_refl _); have BP := Lib.hid hb0; clear hg hb0 hbel) | ((with_reducible refine gate_ (.store 48 (.tmp 11) (.tmp 93)) rfl ?_); go_must (refine IxP.bstore (t := 48) (p := 11) (v := .tmp 93) rfl rfl rfl b11 _ #[.int .i64 z0, .int .i64 z1] (.agg #[.int .i64 z0, .int .i64 z1]) rfl rfl rfl BP.out (by kernel_rfl) rfl (by simp [Value.oneCell']) ?_); intro w11 hb11 hs11 hz11 hB11; have hR11 := HR9.out.below (HB10.out.trans (hB11 _ HG10.out)); have e0 := (blk_cell hb11 0).trans (Eq.refl (some (Value.int .i64 z0))); have e1 := (blk_cell hb11 1).trans (Eq.refl (some (Value.int .i64 z1))); have hcb9 := (blk_cell hR11.1.box 0).trans (Eq.refl (some (Value.slice (some ⟨b, 0, none⟩) xs.length cu))); have d5 := (blk_cell hR11.2 5).trans (Eq.refl (some (Value.int .i64 ((j : Int) + 1)))); obtain ⟨b_, hb_, hx0, hx1⟩ := row_cell hR11.1.row j HJ.out; injection hb_ with hb_; injection hb_ with hb_; subst hb_; rw [← HZ.out] at hx0 hx1; have HR11 := Lib.hid hR11; clear hb11 hs11 hz11 hB11 hR11))
                    go_quiet (fail)
                    go_wp2_with fail
                    refine any_drewC (w1 := w11) ?_ _
                    rintro w12 ⟨nn, hw12⟩
                    have HR12 := Lib.hid (show RI w g m bl r0 g0 v (.slice (some ⟨b, 0, none⟩) xs.length cu) xs _ w12 from by rw [hw12]; exact HR11.out.drew nn)
                    have hcb12 := (blk_cell HR12.out.1.box 0).trans (Eq.refl (some (Value.slice (some ⟨b, 0, none⟩) xs.length cu)))
                    clear hw12 hcb9
                    go_quiet ((first | (go_at_call 32; exact Calls.quiet_of_same (IxP.len_calls _ _ g m _ _ (idx_move HR12.out.1.I (fun _ _ _ => rfl))))))
                    go_wp2_with fail
                    go_roundw
                    case rel => exact ⟨k + 1, _, _, xs, hlt, by go_num, by have := HXK.out; omega, HND.out, HR12.out.1.drew _⟩
                    case measure => simp [intOf]; omega
              · have hd3 : (xd == 3) = false := beq_eq_false_iff_ne.2 hd0''
                clear hd0 hd0' hd0'' hcs
                go_wp2_with fail
                go_quiet ((first | (go_at_call 32; exact Calls.quiet_of_same (IxP.len_calls _ _ g m _ _ (idx_move HRI.out.1.I (fun _ _ _ => rfl))))))
                go_wp2_with fail
                go_roundw
                case rel => exact ⟨k + 1, _, _, xs, hlt, by go_num, by have := HXK.out; omega, HND.out, HRI.out.1.drew _⟩
                case measure => simp [intOf]; omega
    · obtain rfl : k = L := by omega
      obtain ⟨Av, cv, rfl⟩ := own_slice hF.I.row
      have HF := Lib.hid hF
      clear hF hlt hk
      go_wp2_with fail
      refine (IxP.all_calls xs w.heap.size g m cv Av _ (idx_move HF.out.I (fun i hi _ => IxP.heap_old _ _ hi))).mono ?_
      rintro e w5 ⟨rfl, hb5, hz5, hB5⟩
      rw [IxP.size_new] at hb5 hz5
      have hkb : w5.heap[wr.heap.size]? = some (.cells #[.int .i64 0] 3 (0, 0)) := (hB5.block _ (by rw [IxP.size_new]; omega)).trans (IxP.heap_new _ _)
      have hBe : Below wr.heap.size wr w5 := ((Below.refl _ wr).alloc (Nat.le_refl _) _).trans (hB5.mono (by rw [IxP.size_new]; omega))
      have HF5 := Lib.hid (HF.out.below hBe)
      have HB5 := Lib.hid hb5
      have HK5 := Lib.hid hkb
      have HZ5 := Lib.hid hz5
      have HW := Lib.hid (show w.heap.size ≤ wr.heap.size from HF.out.b.size)
      clear hb5 hB5 hkb hz5 hBe
      go_wp2_with fail
      refine (wpIn_wide (n := 5)).1 ?_
      refine wpIn_rangeFunc_ownH (F := Fence.wide) (n := 5) rfl (by omega) (gf := 41) (lb := #[.pointer (some ⟨wr.heap.size + 1, 0, none⟩)]) rfl trivial (enters_of Try.func41 (by kernel_rfl) rfl)
        (IxP.all_stops Fence.wide 4 trivial rfl (by omega) (wr.heap.size + 1) w.heap.size Av cv xs w5 HB5.out HF5.out.I.row) keepB_t (keepB_b (ownD_lt HF5.out.I.row (by rw [HZ5.out]; omega))) (Below.refl _ _) (fun _ => rfl)
        (Itp w w5 wr.heap.size) (fun _ pre _ => ∀ j, pre ≠ upto xs j) (Itp_own (by rw [HZ5.out]; omega) (by have := HW.out; rw [HZ5.out]; omega)) (fun _ => ownFrom_pure _ _) ⟨HK5.out, fun _ _ _ => rfl, HF5.out.b, Nat.le_refl _⟩
        (fun x a' W => ∃ Bx, w5.heap.size ≤ Bx ∧ W.heap[Bx]? = some (.cells #[.int .i64 x.2.1, .int .i64 x.2.2] 48 (0, 0)) ∧ a' = { tmps := #[Value.slice A k c, undef, Value.pointer (some ⟨r0, 0, none⟩), Value.pointer (some ⟨g, 0, none⟩), Value.pointer (some ⟨bl, 0, none⟩), Value.int IntKind.i64 ↑k, u6, u7, u8, u9, u10, u11, u12, u13, Value.pointer (some ⟨wr.heap.size, 0, none⟩), Value.int IntKind.i64 ((x.1 : Int) + 1), Value.pointer (some ⟨Bx, 0, none⟩), Value.pointer (some ⟨g, 0, none⟩), Value.pointer (some ⟨g, 0, none⟩), Value.bool false, Value.slice A x0.length c, Value.slice A k c, Value.int IntKind.i64 ↑k, Value.slice A k c, Value.int IntKind.i64 ↑k, Value.bool false, u26, u27, u28, u29, u30, u31, u32, u33, u34, u35, u36, u37, u38, u39, u40, u41, u42, u43, u44, u45, u46, u47, u48, u49, u50, u51, u52, u53, u54, u55, u56, u57, u58, u59, u60, u61, u62, u63, u64, u65, u66, u67, u68, u69, u70, u71, u72, u73, u74, u75, u76, u77, u78, u79, u80, u81, u82, u83, u84, u85, u86, u87, u88, u89, u90, u91, u92, u93, u94, u95, u96, u97, u98, u99, u100, u101, u102, u103, u104, u105, u106, u107, u108, u109, u110, u111, u112, u113, u114, u115, u116, u117, u118, u119, u120, u121, u122, u123, u124, u125, u126, u127, u128, u129, u130, u131, u132, u133, u134, Value.pointer (some ⟨g, 0, none⟩), Value.func (Fn.func 41) #[] #[Value.pointer (some ⟨wr.heap.size + 1, 0, none⟩)], Value.int IntKind.i64 ((x.1 : Int) + 1), encP x.2, undef, undef, undef, undef, undef, undef, undef, undef, undef, undef, undef, undef, undef, undef, undef, undef, undef, undef, undef, undef, undef, undef, undef, undef], defers := [] })
        (fun x a' _ X Y row hs hg hr => by
          obtain ⟨Bx, h1, h2, h3⟩ := hs
          exact ⟨Bx, h1, (hg.block Bx (lt_of_get h2) (fun e => by obtain ⟨_, o, ho, hc⟩ := hr Bx e.symm; rw [h2] at ho; cases ho; cases hc)).trans h2, h3⟩)
        ?assign ?body ?done ?stop
      case assign =>
        rintro l pre x W K hI hK
        have HI := Lib.hid hI
        have HK := Lib.hid hK
        have hszW := hI.2.2.2
        clear hI hK
        rw [show (#[137, 138].zip #[Value.int .i64 ((x.1 : Int) + 1), encP x.2] : Array (Tmp × Value)) = #[(137, Value.int .i64 ((x.1 : Int) + 1)), (138, encP x.2)] by simp]
        simp only [List.size_toArray, List.length_cons, List.length_nil, List.foldl_toArray', List.foldl_cons, List.foldl_nil, List.setIfInBounds_toArray, List.set_cons_zero, List.set_cons_succ, Nat.reduceAdd]
        gi_wp2_with (first | ((with_reducible refine gate_in (.alloc 48) rfl ?_); refine box_in rfl (t := 48) rfl (cs := #[.int .i64 0, .int .i64 0]) ?hr ?_; (case hr => first | (go_simp; done) | (go_simp; rfl)); intro bt hgt wt hbt hBbt; have hle_bt : W.heap.size ≤ bt := (by omega); clear hgt) | ((with_reducible refine gate_in (.store 48 (.tmp 16) (.tmp 138)) rfl ?_); go_must (refine bstore_in (t := 48) (p := 16) (v := .tmp 138) rfl rfl rfl bt _ #[.int .i64 x.2.1, .int .i64 x.2.2] (encP x.2) rfl rfl rfl hbt (by kernel_rfl) (by simp) (by intro q hq; simp only [List.mem_cons, List.not_mem_nil, or_false] at hq; rcases hq with rfl | rfl <;> rfl) ?_); intro ws hbs hoth hsz hbel; have hbw := hBbt.trans (hbel _ hle_bt)))
        exact HK.out _ _ (keepsFrom_below hbw) (hbw.block _ (Nat.lt_of_lt_of_le (ownD_lt HF5.out.I.row (by rw [HZ5.out]; omega)) hszW)) (Itp_below HI.out hbw) ⟨bt, by omega, hbs, rfl⟩
      case body =>
        rintro l pre x a' W hl ⟨r, hr⟩ ⟨hk0, hsame, hbw, hsz5⟩ ⟨Bx, hBx, bX, rfl⟩ hpl
        have hkl : wr.heap.size < w5.heap.size := by rw [HZ5.out]; omega
        have hold : ∀ i o, wr.heap[i]? = some o → W.heap[i]? = w5.heap[i]? := fun i o h => hsame i (by have := lt_of_get h; omega) (by have := lt_of_get h; omega)
        have c14 := (blk_cell hk0 0).trans (Eq.refl (some (Value.int .i64 (pre.length : Int))))
        have f14 := blk_frozen hk0 0
        have hbx := (hold _ _ HF.out.box).trans HF5.out.box
        have c4 := (blk_cell hbx 0).trans (Eq.refl (some (Value.slice Au xs.length cu)))
        have hrs := (hold _ _ HF.out.res).trans HF5.out.res
        have c2 := (blk_cell hrs 0).trans (Eq.refl (some (Value.bool false)))
        have f2 := blk_frozen hrs 0
        have hrow : W.ownsRow w.heap.size 48 2 (.slice Au xs.length cu) xs.length (cel xs) := own_heap HF5.out.row (fun i hi => hsame i (own_lt HF5.out.row i hi) (by have := own_lt HF.out.row i hi; omega))
        obtain ⟨b, rfl, hcell, hcell1⟩ := row_cell hrow pre.length hpl
        obtain ⟨y, hy⟩ : ∃ y, y = xs.getD pre.length (0, 0) := ⟨_, rfl⟩
        rw [← hy] at hcell hcell1
        obtain ⟨x1, x2, x3⟩ := x
        have e0 := (blk_cell bX 0).trans (Eq.refl (some (Value.int .i64 x2)))
        have e1 := (blk_cell bX 1).trans (Eq.refl (some (Value.int .i64 x3)))
        obtain ⟨p, hp⟩ : ∃ p, p = pre.length := ⟨_, rfl⟩
        have HP := Lib.hid hp
        have HI := Lib.hid (show Itp w w5 wr.heap.size pre W from ⟨hk0, hsame, hbw, hsz5⟩)
        rw [← hp] at c14 hcell hcell1 hy
        have hp1 : (p : Int) < xs.length := by omega
        have hp2 : (xs.length : Int) ≤ 1000 := by have := hxk; omega
        obtain ⟨y0, y1⟩ := y
        have hne : ∀ j, x1 ≠ p ∨ (x2 == y0 && x3 == y1) = false → pre ++ [(x1, x2, x3)] ≠ upto xs j := fun j hor e => by
          have := upto_last e
          rw [← HP.out, ← hy] at this
          injection this with e1 e2
          rcases hor with h | h
          · exact h e1
          · injection e2 with e3 e4
            subst e3; subst e4; simp at h
        have HNE := Lib.hid hne
        have HRS := Lib.hid hrs
        have hD : (Value.slice Av xs.length cv).ownBlock.getD 0 < wr.heap.size := ownD_lt HF.out.I.row (Nat.lt_of_le_of_lt (Nat.zero_le _) (lt_of_get HF.out.I.blk))
        have HDD := Lib.hid hD
        clear hk0 hsame hbw hkl hold hbx hrs hrow hpl hy hp hne hl hr hBx bX hsz5 hD
        have hpd : decide (xs.length ≤ p) = false := decide_eq_false (by omega)
        by_cases h1 : x1 = p
        · subst h1
          have h2 : (x2 == y0 && x3 == y1) = true ∨ (x2 == y0 && x3 == y1) = false := by cases (x2 == y0 && x3 == y1) <;> simp
          have hpp : ((x1 : Int) + 1 != (x1 : Int) + 1) = false := by simp
          rcases h2 with h2 | h2
          · gi_wp2_with fail
            refine Go.Proofs.YtaeijlkogenblaaW.QuietRound.wpIn_region_read (by kernel_rfl) (by kernel_rfl) (by kernel_rfl) ?_
            repeat (go_big_quiet_step (fail))
            refine wpQuiet_nil ?_
            intro _ hw'
            obtain ⟨nq, hw''⟩ := hw'
            subst hw''
            gi_wp2_with fail
            exact ⟨kf_set _ _ _ _ _, keep_set _ HDD.out, Itp_next HI.out HP.out HW.out _⟩
          · gi_wp2_with fail
            refine Go.Proofs.YtaeijlkogenblaaW.QuietRound.wpIn_region_read (by kernel_rfl) (by kernel_rfl) (by kernel_rfl) ?_
            repeat (go_big_quiet_step (fail))
            refine wpQuiet_nil ?_
            intro _ hw'
            obtain ⟨nq, hw''⟩ := hw'
            subst hw''
            gi_wp2_with fail
            exact ⟨kf_set _ _ _ _ _, fun j => HNE.out j (.inr h2)⟩
        · have h3 : ((x1 : Int) + 1 != (p : Int) + 1) = true := by rw [bne_iff_ne]; omega
          gi_wp2_with fail
          refine Go.Proofs.YtaeijlkogenblaaW.QuietRound.wpIn_region_read (by kernel_rfl) (by kernel_rfl) (by kernel_rfl) ?_
          repeat (go_big_quiet_step (fail))
          refine wpQuiet_nil ?_
          intro _ hw'
          obtain ⟨nq, hw''⟩ := hw'
          subst hw''
          gi_wp2_with fail
          exact ⟨kf_set _ _ _ _ _, fun j => HNE.out j (.inl h1)⟩
      case done =>
        rintro D ys W hD rfl ⟨hk0, hsame, hbw, hsz5⟩ hK
        have hkl : wr.heap.size < w5.heap.size := by rw [HZ5.out]; omega
        have hold : ∀ i o, wr.heap[i]? = some o → W.heap[i]? = w5.heap[i]? := fun i o h => hsame i (by have := lt_of_get h; omega) (by have := lt_of_get h; omega)
        rw [upto_length] at hk0
        have c14 := (blk_cell hk0 0).trans (Eq.refl (some (Value.int .i64 (xs.length : Int))))
        have hbx := (hold _ _ HF.out.box).trans HF5.out.box
        have c4 := (blk_cell hbx 0).trans (Eq.refl (some (Value.slice Au xs.length cu)))
        have hrs := (hold _ _ HF.out.res).trans HF5.out.res
        have c2 := (blk_cell hrs 0).trans (Eq.refl (some (Value.bool false)))
        have f2 := blk_frozen hrs 0
        have HRS := Lib.hid hrs
        have HD := Lib.hid hD
        have HBW := Lib.hid hbw
        have HKD := Lib.hid hK
        clear hk0 hsame hbw hkl hold hbx hrs hD hK hsz5
        go_wp2_with fail
        have hKD := (KeepsOthers.setCell W ⟨r0, 0, none⟩ (Value.bool true)).same D _ HKD.out rfl
        have hne : r0 ≠ D := by
          rintro rfl
          have := HRS.out.symm.trans HKD.out
          cases this
        have hr3 : ((W.setCell ⟨r0, 0, none⟩ (.bool true)).putObj D (.deferred none)).heap[r0]? = some (.cells #[.bool true] 4 (0, 0)) := (World.putObj_heap_other hne).trans (blk_set HRS.out 0 (.bool true))
        refine ⟨by simp, .inl ⟨_, _, rfl, run_takeDeferred hKD, ?_⟩⟩
        have hr4 := (blk_cell hr3 0).trans (Eq.refl (some (Value.bool true)))
        refine ⟨.bool true, by simp [results, Try.results7, go_sem, hr4, asAddr], rfl, ?_⟩
        exact (HBW.out.setCell (p := ⟨r0, 0, none⟩) HF.out.hr0 _).trans (belowK_b (w := w) (Nat.le_refl _) _ D _ _ (by have := HD.out; have := HW.out; rw [HZ5.out] at *; omega) hKD rfl rfl)
      case stop =>
        rintro D c pre W _ ⟨j, _, hj⟩ h _
        exact absurd hj (h j)
end Go.Proofs.Ytaeijlkogenblaa.Np