/- NamesTexts: a step. Conditions: the texts lie as Tx says, the numbers are numbers. -/
import Derived.Test.YtaeijlkogenblaaTe
import Derived.Deep.RegionLaw
import Derived.StillTailTactics
namespace Go.Proofs.Ytaeijlkogenblaa.Nt
open Go.RowKit Go.Shelf Go.Proofs.YtaeijlkogenblaaW.Raw Go.Proofs.YtaeijlkogenblaaW.PrintWords Go.Proofs.YtaeijlkogenblaaW.PrintLast Go.Proofs.Ytaeijlkogenblaa.IxS
set_option linter.unusedVariables false
set_option linter.unusedSimpArgs false
def StepQ (base : Nat) (f : Nat → Prop) (W : World) (bT g m n : Nat) (W' : World) : Prop :=
  ∃ f' v' r' kp' we' xs' ks', Tx base f' W' bT g m v' r' kp' we' xs' ks' ∧ (∀ k, f' k → f k ∨ W.heap.size ≤ k) ∧ Kept W W' f ∧ Below base W W' ∧ ks'.length ≤ n + 1
section
variable {base : Nat} {f : Nat → Prop} {W W1 W2 : World} {bT g m : Nat} {v r kp we : Value} {xs : List ByteArray} {ks : List KE}
theorem Tx.base_le (h : Tx base f W bT g m v r kp we xs ks) : base ≤ W.heap.size := Nat.le_trans h.hb (Nat.le_of_lt (lt_of_get h.blk))
theorem StepQ.same (h : Tx base f W bT g m v r kp we xs ks) (hb : Below W.heap.size W W1) : StepQ base f W bT g m ks.length W1 :=
  ⟨f, v, r, kp, we, xs, ks, h.below hb, fun _ hk => .inl hk, Kept.of_below hb f, hb.mono h.base_le, Nat.le_succ _⟩
theorem StepQ.after (h : Tx base f W bT g m v r kp we xs ks) (hb : Below W.heap.size W W1) (h2 : StepQ base f W1 bT g m ks.length W2) : StepQ base f W bT g m ks.length W2 := by
  obtain ⟨f', v', r', kp', we', xs', ks', h3, h4, h5, h6, h7⟩ := h2
  exact ⟨f', v', r', kp', we', xs', ks', h3, fun k hk => (h4 k hk).imp id (fun h => Nat.le_trans hb.size h), (Kept.of_below hb f).then_ h5 (fun _ h => .inl h), (hb.mono h.base_le).trans h6, h7⟩
theorem Tx.off_new (h : Tx base f W1 bT g m v r kp we xs ks) {n b : Nat} (hf : ∀ k, f k → k < n) (hb : n ≤ b) : ¬ (b = g ∨ b = m ∨ some b = v.ownBlock) := by
  rintro (e | e | e)
  · have := hf _ h.fg; omega
  · have := hf _ h.fm; omega
  · have := hf _ (h.fv _ e.symm); omega
theorem Tx.off_T (h : Tx base f W bT g m v r kp we xs ks) : ¬ (bT = g ∨ bT = m ∨ some bT = v.ownBlock) := by
  rintro (e | e | e)
  · exact blk_ne h.blk h.I.blk (by decide) e
  · exact IxS.raw_ne_blk h.I.raw h.blk e.symm
  · exact own_ne h.I.row h.blk (by decide) e
theorem Tx.off_r (h : Tx base f W bT g m v r kp we xs ks) {k : Nat} (hk : r.ownBlock = some k) : ¬ (k = g ∨ k = m ∨ some k = v.ownBlock) := by
  obtain ⟨cs, hcs⟩ := own_typed h.rr k hk
  rintro (e | e | e)
  · exact blk_ne hcs h.I.blk (by decide) e
  · exact IxS.raw_ne_blk h.I.raw hcs e.symm
  · exact h.vr k e.symm hk
theorem Tx.ro (h : Tx base f W bT g m v r kp we xs ks) : ROw W base bT (.pointer (some ⟨g, 0, none⟩)) r kp we xs := ⟨h.blk, h.rr⟩
end
theorem any_drewC {P : Program} {c : Code} {Q : Exit → Act → World → Prop} {a : Act} {w1 : World} (h : ∀ w2, (∃ n, w2 = w1.drewN n) → Code.wp P c Q a w2) (n : Nat) : Code.wp P c Q a (w1.drewN n) := h _ ⟨n, rfl⟩
theorem rds_own {base : Nat} {w : World} {v : Value} {xs : List ByteArray} (h : w.ownsRow base 9 1 v xs.length (encs Value.string xs)) (hle : xs.length ≤ 1048576) : Rds (fun k => base ≤ k) w v xs := by
  obtain ⟨A, c, rfl⟩ := own_slice h
  refine ⟨A, c, rfl, own_le h, hle, ?_⟩
  have h0 := h
  rcases h.2 with ⟨hnil, h1⟩ | ⟨g', cap', cur, he', hb', hh', hr'⟩
  · exact .inl (List.eq_nil_of_length_eq_zero h1)
  · have hA : A = some ⟨g', 0, none⟩ := by injection he'
    refine .inr ⟨g', cur, hA, hb', hh', fun j hj => ?_⟩
    obtain ⟨b2, e2, hc2⟩ := row_cell (n := xs.length) h0 j hj
    rw [hA] at e2
    injection e2 with e2
    injection e2 with e2
    subst e2
    exact (blk_cell hh' j).symm.trans hc2
theorem row_at {α : Type} {enc : α → Value} {w : World} {base c n : Nat} {e : TypeId} {A : Option Addr} {l : List α} (h : w.ownsRow base e 1 (.slice A n c) n (encs enc l)) (hn : n = l.length) (i : Nat) (x : α) (hx : l[i]? = some x) : ∃ b, A = some ⟨b, 0, none⟩ ∧ w.cell? ⟨b, i, none⟩ = some (enc x) := by
  subst hn
  have hi := (List.getElem?_eq_some_iff.1 hx).1
  have h0 := h
  rcases h.2 with ⟨hnil, h1⟩ | ⟨g', cap', cur, he', hb', hh', hr'⟩
  · omega
  · injection he' with e1 _ _
    subst e1
    refine ⟨g', rfl, ?_⟩
    have := (own_at_of (d := x) h0 (i : Int) (by omega) (by omega)).1
    have e3 : rdOf x l (i : Int) = x := by simp [rdOf, List.getD_eq_getElem?_getD, hx]
    rw [e3] at this
    simpa using this
theorem StepQ.of {base : Nat} {f : Nat → Prop} {W W1 W2 : World} {bT g m : Nat} {v r kp we : Value} {xs : List ByteArray} {ks : List KE} (h : Tx base f W bT g m v r kp we xs ks) {s : ByteArray} (hlt : xs.length < 1048576) {v' r' : Value} (hI : Idx W1 base g m v' (xs ++ [s])) (hK : Kept W W1 (fun i => i = g ∨ i = m ∨ some i = v.ownBlock)) (hat : v'.ownBlock = v.ownBlock ∨ ∃ b, v'.ownBlock = some b ∧ W.heap.size ≤ b)
    (hmv : ∀ k, v.ownBlock = some k → v'.ownBlock = some k ∨ W1.heap[k]? = W.heap[k]?) (hR : ROw W2 base bT (.pointer (some ⟨g, 0, none⟩)) r' kp we (xs ++ [s])) (hK2 : Kept W1 W2 (fun j => j = bT ∨ some j = r.ownBlock)) (hat2 : r'.ownBlock = r.ownBlock ∨ ∃ b, r'.ownBlock = some b ∧ W1.heap.size ≤ b) (hB1 : Below base W W1) (hB2 : Below base W1 W2) : StepQ base f W bT g m ks.length W2 := by
  have k1 : Kept W W1 f := hK.mono (fun k hk => hk.elim (fun e => e ▸ h.fg) (fun hk => hk.elim (fun e => e ▸ h.fm) (fun e => h.fv k e.symm)))
  have k2 : Kept W1 W2 f := hK2.mono (fun k hk => hk.elim (fun e => e ▸ h.fT) (fun e => h.fr k e.symm))
  exact ⟨_, _, _, _, _, _, _, tx_of h hlt hI hK hat hmv hR hK2 hat2, fun _ hk => hk, k1.then_ k2 (fun _ hk => .inl hk), hB1.trans hB2, Nat.le_succ _⟩
def whichF (n : Int) (a : Nat) : Int := if a = 0 then -1 else if n.tmod a < 0 then n.tmod a + a else n.tmod a
theorem whichF_range (n : Int) (a : Nat) : whichF n a = -1 ∨ ∃ q : Nat, whichF n a = (q : Int) ∧ q < a := by
  unfold whichF
  by_cases h0 : a = 0
  · exact .inl (if_pos h0)
  · have hpos : 0 < (a : Int) := by omega
    have hq1 := Int.tmod_lt_of_pos n hpos
    have h1 := Int.tmod_lt_of_pos (-n) hpos
    rw [Int.neg_tmod] at h1
    rw [if_neg h0]
    right
    split
    · exact ⟨(n.tmod a + a).toNat, by omega, by omega⟩
    · exact ⟨(n.tmod a).toNat, by omega, by omega⟩
theorem which_calls2 (n : Int) (a : Nat) (w : World) (hn : (Lit.int .i64 n).wf = true) (ha : (a : Int) ≤ 9223372036854775807) :
    Calls Try.prog 38 #[.int .i64 n, .int .i64 a] w fun e w' => e = .returned (.int .i64 (whichF n a)) ∧ w' = w := by
  by_cases h0 : a = 0
  · have hf : whichF n a = -1 := if_pos h0
    rw [hf]
    subst h0
    go_enter Try.func38, Try.ntmps38
    go_wp2
    go_ret
    exact ⟨rfl, rfl⟩
  · have ha0 : ((a : Int) == 0) = false := by simpa using h0
    have hpos : 0 < (a : Int) := by omega
    obtain ⟨q, hq⟩ : ∃ q, q = n.tmod a := ⟨_, rfl⟩
    have hq1 : q < a := by rw [hq]; exact Int.tmod_lt_of_pos n hpos
    have hq2 : -(a : Int) < q := by
      rw [hq]
      have h1 := Int.tmod_lt_of_pos (-n) hpos
      rw [Int.neg_tmod] at h1
      omega
    by_cases hs : q < 0
    · have hs1 : n.tmod a < 0 := hq ▸ hs
      have hf : whichF n a = n.tmod a + a := by unfold whichF; rw [if_neg h0, if_pos hs1]
      rw [hf]
      clear hf
      go_enter Try.func38, Try.ntmps38
      go_wp2
      go_ret
      exact ⟨rfl, rfl⟩
    · have hs1 : ¬ n.tmod a < 0 := hq ▸ hs
      have hf : whichF n a = n.tmod a := by unfold whichF; rw [if_neg h0, if_neg hs1]
      rw [hf]
      clear hf
      go_enter Try.func38, Try.ntmps38
      go_wp2
      go_ret
      exact ⟨rfl, rfl⟩
theorem find_cases (xs : List ByteArray) (s : ByteArray) : (xs.findIdx? (fun b => eqk s b) = none) ∨ ∃ i, xs.findIdx? (fun b => eqk s b) = some i ∧ i < xs.length := by
  cases h : xs.findIdx? (fun b => eqk s b) with
  | none => exact .inl rfl
  | some i => exact .inr ⟨i, rfl, (List.findIdx?_eq_some_iff_getElem.1 h).1⟩

set_option maxRecDepth 100000 in
set_option maxHeartbeats 2000000 in
theorem step_of_known (base : Nat) (f : Nat → Prop) (xd xn xm p0 p1 : Int) (ss : ByteArray) (xf : Nat) (W : World) (bT g m : Nat) (v r kp we : Value) (xs : List ByteArray) (ks : List KE) (h : Tx base f W bT g m v r kp we xs ks) (hd : xd = 1) (i : Nat) (hi : xs.findIdx? (fun b => eqk ss b) = some i) (hl : i < xs.length) :
    Calls Try.prog 18 #[.pointer (some ⟨bT, 0, none⟩), .agg #[.int .i64 xd, .string ss, .float .f64 xf, .int .i64 p0, .int .i64 p1, .int .i64 xn, .int .i64 xm]] W fun e W' => e = .returned (.bool true) ∧ StepQ base f W bT g m ks.length W' := by
  obtain ⟨Ar, cr, rfl⟩ := own_slice h.rr
  obtain ⟨Ak, ck, rfl⟩ := own_slice h.kk
  obtain ⟨Aw, cw, rfl⟩ := own_slice h.ww
  have HH := Lib.hid h
  clear h
  have hd1 : (xd == 1) = true := beq_iff_eq.2 hd
  have hx2 : (xs.length : Int) ≤ 1048576 := by have := HH.out.hle; omega
  have hil : (i : Int) < (xs.length : Int) := by omega
  have HI := Lib.hid hi
  have HL := Lib.hid hl
  clear hd hi hl
  go_enter Try.func18, Try.ntmps18
  go_wp2_with (first | ((with_reducible refine gate_dst (N := 3) rfl ?_); refine box_event rfl (N := 3) rfl (cs := #[.int .i64 xd, .string ss, .float .f64 xf, .int .i64 p0, .int .i64 p1, .int .i64 xn, .int .i64 xm]) (t := 50) ?hr ?_; (case hr => first | (go_simp; done) | (go_simp; rfl)); intro b3 hg_ w1 hb3 hB1; have HL3 := Lib.hid (show W.heap.size ≤ b3 from by rw [hg_]; exact Nat.le_refl _); clear hg_; have d0 := (blk_cell hb3 0).trans (Eq.refl (some (Value.int .i64 xd))); have d1 := (blk_cell hb3 1).trans (Eq.refl (some (Value.string ss))); have d5 := (blk_cell hb3 5).trans (Eq.refl (some (Value.int .i64 xn))); have d6 := (blk_cell hb3 6).trans (Eq.refl (some (Value.int .i64 xm))); have hT1 := HH.out.below hB1; have HT1 := Lib.hid hT1; have t0 := (blk_cell hT1.blk 0).trans (Eq.refl (some (Value.pointer (some ⟨g, 0, none⟩)))); have t1 := (blk_cell hT1.blk 1).trans (Eq.refl (some (Value.slice Ar xs.length cr))); have t2 := (blk_cell hT1.blk 2).trans (Eq.refl (some (Value.slice Ak ks.length ck))); have t3 := (blk_cell hT1.blk 3).trans (Eq.refl (some (Value.slice Aw ks.length cw))); have HB1 := Lib.hid hB1; have HB3 := Lib.hid hb3; clear hb3 hB1 hT1))
  go_still_tail 6, (by kernel_rfl)
  change wpList _ _ _ _ _ w1.drew
  go_wp2_with (first | (go_at_call 9; go_must (refine (IxS.of_found ss xs i base g m v _ (by exact idx_move HT1.out.I (fun _ _ _ => rfl)) HI.out HL.out).mono ?_); rintro e w2 ⟨rfl, rfl⟩))
  go_region_law (go_simp; go_at_call 34; go_must (refine (rof_known ss xs i base bT (.pointer (some ⟨g, 0, none⟩)) (.slice Ar xs.length cr) (.slice Ak ks.length ck) (.slice Aw ks.length cw) _ (by exact ⟨HT1.out.blk, HT1.out.rr⟩) HI.out).mono ?_); rintro e w2 ⟨rfl, rfl⟩)
  go_wp2
  go_ret
  exact ⟨by simp [Act.put], .same HH.out (below_drew (below_drew HB1.out))⟩

set_option maxRecDepth 100000 in
set_option maxHeartbeats 2000000 in
theorem step_of_full (base : Nat) (f : Nat → Prop) (xd xn xm p0 p1 : Int) (ss : ByteArray) (xf : Nat) (W : World) (bT g m : Nat) (v r kp we : Value) (xs : List ByteArray) (ks : List KE) (h : Tx base f W bT g m v r kp we xs ks) (hd : xd = 1) (hi : xs.findIdx? (fun b => eqk ss b) = none) (hl : 1048576 ≤ xs.length) :
    Calls Try.prog 18 #[.pointer (some ⟨bT, 0, none⟩), .agg #[.int .i64 xd, .string ss, .float .f64 xf, .int .i64 p0, .int .i64 p1, .int .i64 xn, .int .i64 xm]] W fun e W' => e = .returned (.bool true) ∧ StepQ base f W bT g m ks.length W' := by
  obtain ⟨Ar, cr, rfl⟩ := own_slice h.rr
  obtain ⟨Ak, ck, rfl⟩ := own_slice h.kk
  obtain ⟨Aw, cw, rfl⟩ := own_slice h.ww
  have HH := Lib.hid h
  clear h
  have hd1 : (xd == 1) = true := beq_iff_eq.2 hd
  have HI := Lib.hid hi
  have HL := Lib.hid hl
  clear hd hi hl
  go_enter Try.func18, Try.ntmps18
  go_wp2_with (first | ((with_reducible refine gate_dst (N := 3) rfl ?_); refine box_event rfl (N := 3) rfl (cs := #[.int .i64 xd, .string ss, .float .f64 xf, .int .i64 p0, .int .i64 p1, .int .i64 xn, .int .i64 xm]) (t := 50) ?hr ?_; (case hr => first | (go_simp; done) | (go_simp; rfl)); intro b3 hg_ w1 hb3 hB1; have HL3 := Lib.hid (show W.heap.size ≤ b3 from by rw [hg_]; exact Nat.le_refl _); clear hg_; have d0 := (blk_cell hb3 0).trans (Eq.refl (some (Value.int .i64 xd))); have d1 := (blk_cell hb3 1).trans (Eq.refl (some (Value.string ss))); have d5 := (blk_cell hb3 5).trans (Eq.refl (some (Value.int .i64 xn))); have d6 := (blk_cell hb3 6).trans (Eq.refl (some (Value.int .i64 xm))); have hT1 := HH.out.below hB1; have HT1 := Lib.hid hT1; have t0 := (blk_cell hT1.blk 0).trans (Eq.refl (some (Value.pointer (some ⟨g, 0, none⟩)))); have t1 := (blk_cell hT1.blk 1).trans (Eq.refl (some (Value.slice Ar xs.length cr))); have t2 := (blk_cell hT1.blk 2).trans (Eq.refl (some (Value.slice Ak ks.length ck))); have t3 := (blk_cell hT1.blk 3).trans (Eq.refl (some (Value.slice Aw ks.length cw))); have HB1 := Lib.hid hB1; have HB3 := Lib.hid hb3; clear hb3 hB1 hT1))
  go_still_tail 6, (by kernel_rfl)
  change wpList _ _ _ _ _ w1.drew
  go_wp2_with (first | (go_at_call 9; go_must (refine (IxS.of_full ss xs base g m v _ (by exact idx_move HT1.out.I (fun _ _ _ => rfl)) HI.out HL.out).mono ?_); rintro e w2 ⟨rfl, rfl⟩))
  go_region_law (go_simp; go_at_call 34; go_must (refine (rof_full ss xs base bT (.pointer (some ⟨g, 0, none⟩)) (.slice Ar xs.length cr) (.slice Ak ks.length ck) (.slice Aw ks.length cw) _ (by exact ⟨HT1.out.blk, HT1.out.rr⟩) HI.out HL.out).mono ?_); rintro e w2 ⟨rfl, rfl⟩)
  go_wp2
  go_ret
  exact ⟨by simp [Act.put], .same HH.out (below_drew (below_drew HB1.out))⟩

set_option maxRecDepth 100000 in
set_option maxHeartbeats 2000000 in
theorem step_of_new (base : Nat) (f : Nat → Prop) (xd xn xm p0 p1 : Int) (ss : ByteArray) (xf : Nat) (W : World) (bT g m : Nat) (v r kp we : Value) (xs : List ByteArray) (ks : List KE) (h : Tx base f W bT g m v r kp we xs ks) (hf : ∀ k, f k → k < W.heap.size) (hd : xd = 1) (hi : xs.findIdx? (fun b => eqk ss b) = none) (hl : xs.length < 1048576) :
    Calls Try.prog 18 #[.pointer (some ⟨bT, 0, none⟩), .agg #[.int .i64 xd, .string ss, .float .f64 xf, .int .i64 p0, .int .i64 p1, .int .i64 xn, .int .i64 xm]] W fun e W' => e = .returned (.bool true) ∧ StepQ base f W bT g m ks.length W' := by
  obtain ⟨Ar, cr, rfl⟩ := own_slice h.rr
  obtain ⟨Ak, ck, rfl⟩ := own_slice h.kk
  obtain ⟨Aw, cw, rfl⟩ := own_slice h.ww
  have HH := Lib.hid h
  clear h
  have hd1 : (xd == 1) = true := beq_iff_eq.2 hd
  have hx2 : (xs.length : Int) ≤ 1048576 := by have := HH.out.hle; omega
  have HI := Lib.hid hi
  have HL := Lib.hid hl
  have HF := Lib.hid hf
  clear hd hi hl hf
  go_enter Try.func18, Try.ntmps18
  go_wp2_with (first | ((with_reducible refine gate_dst (N := 3) rfl ?_); refine box_event rfl (N := 3) rfl (cs := #[.int .i64 xd, .string ss, .float .f64 xf, .int .i64 p0, .int .i64 p1, .int .i64 xn, .int .i64 xm]) (t := 50) ?hr ?_; (case hr => first | (go_simp; done) | (go_simp; rfl)); intro b3 hg_ w1 hb3 hB1; have HL3 := Lib.hid (show W.heap.size ≤ b3 from by rw [hg_]; exact Nat.le_refl _); clear hg_; have d0 := (blk_cell hb3 0).trans (Eq.refl (some (Value.int .i64 xd))); have d1 := (blk_cell hb3 1).trans (Eq.refl (some (Value.string ss))); have d5 := (blk_cell hb3 5).trans (Eq.refl (some (Value.int .i64 xn))); have d6 := (blk_cell hb3 6).trans (Eq.refl (some (Value.int .i64 xm))); have hT1 := HH.out.below hB1; have HT1 := Lib.hid hT1; have t0 := (blk_cell hT1.blk 0).trans (Eq.refl (some (Value.pointer (some ⟨g, 0, none⟩)))); have t1 := (blk_cell hT1.blk 1).trans (Eq.refl (some (Value.slice Ar xs.length cr))); have t2 := (blk_cell hT1.blk 2).trans (Eq.refl (some (Value.slice Ak ks.length ck))); have t3 := (blk_cell hT1.blk 3).trans (Eq.refl (some (Value.slice Aw ks.length cw))); have HB1 := Lib.hid hB1; have HB3 := Lib.hid hb3; clear hb3 hB1 hT1))
  go_still_tail 6, (by kernel_rfl)
  change wpList _ _ _ _ _ w1.drew
  have HTd := Lib.hid (show Tx base f w1.drew bT g m v (.slice Ar xs.length cr) (.slice Ak ks.length ck) (.slice Aw ks.length cw) xs ks from HT1.out.below (below_drew (Below.refl _ _)))
  go_wp2_with (first | (go_at_call 9; go_must (refine (of_new2 ss xs base g m v _ (by exact idx_move HT1.out.I (fun _ _ _ => rfl)) HI.out HL.out).mono ?_); rintro e w2 ⟨rfl, v', hI2, hB2, hK2, hat, hmv⟩; have h32 : w2.heap[b3]? = w1.heap[b3]? := hK2.2 b3 (lt_of_get HB3.out) (HTd.out.off_new HF.out HL3.out); have hT2 : w2.heap[bT]? = w1.heap[bT]? := hK2.2 bT (lt_of_get HT1.out.blk) HTd.out.off_T; have hR2 : ROw w2 base bT (.pointer (some ⟨g, 0, none⟩)) (.slice Ar xs.length cr) (.slice Ak ks.length ck) (.slice Aw ks.length cw) xs := ⟨hT2.trans HT1.out.blk, own_heap HTd.out.rr (fun k hk => hK2.2 k (own_lt HTd.out.rr k hk) (HTd.out.off_r hk))⟩; have e1 := (blk_cell (h32.trans HB3.out) 1).trans (Eq.refl (some (Value.string ss))); have HI2 := Lib.hid hI2; have HB2 := Lib.hid hB2; have HK2 := Lib.hid hK2; have HA2 := Lib.hid hat; have HM2 := Lib.hid hmv; have HR2 := Lib.hid hR2; clear hI2 hB2 hK2 hat hmv hR2 h32 hT2 d0 d1 d5 d6 t0 t1 t2 t3))
  go_region_law (go_simp; go_at_call 34; go_must (refine (rof_new ss xs base bT (.pointer (some ⟨g, 0, none⟩)) (.slice Ar xs.length cr) (.slice Ak ks.length ck) (.slice Aw ks.length cw) _ (by exact HR2.out) HI.out HL.out HH.out.hb).mono ?_); rintro e w3 ⟨rfl, r', hR3, hB3, hK3, hat3⟩; have HR3 := Lib.hid hR3; have HB3_ := Lib.hid hB3; have HK3 := Lib.hid hK3; have HA3 := Lib.hid hat3; clear hR3 hB3 hK3 hat3)
  go_wp2
  go_ret
  refine ⟨by simp [Act.put], .after HH.out (below_drew HB1.out) (StepQ.of HTd.out HL.out (W1 := w2.drew) (idx_move HI2.out (fun _ _ _ => rfl)) HK2.out.drew HA2.out HM2.out HR3.out HK3.out HA3.out (below_drew HB2.out) HB3_.out)⟩

set_option maxRecDepth 100000 in
set_option maxHeartbeats 2000000 in
theorem step_find_known (base : Nat) (f : Nat → Prop) (xd xn xm p0 p1 : Int) (ss : ByteArray) (xf : Nat) (W : World) (bT g m : Nat) (v r kp we : Value) (xs : List ByteArray) (ks : List KE) (h : Tx base f W bT g m v r kp we xs ks) (hd : xd = 2) (i : Nat) (hi : xs.findIdx? (fun b => eqk ss b) = some i) (hl : i < xs.length) :
    Calls Try.prog 18 #[.pointer (some ⟨bT, 0, none⟩), .agg #[.int .i64 xd, .string ss, .float .f64 xf, .int .i64 p0, .int .i64 p1, .int .i64 xn, .int .i64 xm]] W fun e W' => e = .returned (.bool true) ∧ StepQ base f W bT g m ks.length W' := by
  obtain ⟨Ar, cr, rfl⟩ := own_slice h.rr
  obtain ⟨Ak, ck, rfl⟩ := own_slice h.kk
  obtain ⟨Aw, cw, rfl⟩ := own_slice h.ww
  have HH := Lib.hid h
  clear h
  have hd1 : (xd == 1) = false := beq_eq_false_iff_ne.2 (by omega)
  have hd2 : (xd == 2) = true := beq_iff_eq.2 hd
  clear hd
  have hx2 : (xs.length : Int) ≤ 1048576 := by have := HH.out.hle; omega
  have hil : (i : Int) < (xs.length : Int) := by omega
  have hpf : pf xs ss = ((i : Int) + 1, true) := by simp only [pf, hi]
  have HI := Lib.hid hi
  have HL := Lib.hid hl
  clear hi hl
  go_enter Try.func18, Try.ntmps18
  go_wp2_with (first | ((with_reducible refine gate_dst (N := 3) rfl ?_); refine box_event rfl (N := 3) rfl (cs := #[.int .i64 xd, .string ss, .float .f64 xf, .int .i64 p0, .int .i64 p1, .int .i64 xn, .int .i64 xm]) (t := 50) ?hr ?_; (case hr => first | (go_simp; done) | (go_simp; rfl)); intro b3 hg_ w1 hb3 hB1; have HL3 := Lib.hid (show W.heap.size ≤ b3 from by rw [hg_]; exact Nat.le_refl _); clear hg_; have d0 := (blk_cell hb3 0).trans (Eq.refl (some (Value.int .i64 xd))); have d1 := (blk_cell hb3 1).trans (Eq.refl (some (Value.string ss))); have d5 := (blk_cell hb3 5).trans (Eq.refl (some (Value.int .i64 xn))); have d6 := (blk_cell hb3 6).trans (Eq.refl (some (Value.int .i64 xm))); have hT1 := HH.out.below hB1; have HT1 := Lib.hid hT1; have t0 := (blk_cell hT1.blk 0).trans (Eq.refl (some (Value.pointer (some ⟨g, 0, none⟩)))); have t1 := (blk_cell hT1.blk 1).trans (Eq.refl (some (Value.slice Ar xs.length cr))); have t2 := (blk_cell hT1.blk 2).trans (Eq.refl (some (Value.slice Ak ks.length ck))); have t3 := (blk_cell hT1.blk 3).trans (Eq.refl (some (Value.slice Aw ks.length cw))); have HB1 := Lib.hid hB1; have HB3 := Lib.hid hb3; clear hb3 hB1 hT1))
  go_quiet ((first | (go_at_call 11; exact Calls.quiet_of_same (IxS.find_found ss xs i base g m v _ (idx_move HT1.out.I (fun _ _ _ => rfl)) HI.out HL.out))))
  go_wp2_with fail
  refine any_drewC (w1 := w1) ?_ _
  rintro w2 ⟨n2, hw2⟩
  have hT2 : Tx base f w2 bT g m v (.slice Ar xs.length cr) (.slice Ak ks.length ck) (.slice Aw ks.length cw) xs ks := by rw [hw2]; exact HT1.out.below (pw_below_drewN (Below.refl _ _) _)
  have HB2 := Lib.hid (show Below W.heap.size W w2 from by rw [hw2]; exact pw_below_drewN HB1.out _)
  have hb32 : w2.heap[b3]? = some (.cells #[.int .i64 xd, .string ss, .float .f64 xf, .int .i64 p0, .int .i64 p1, .int .i64 xn, .int .i64 xm] 50 (0, 0)) := by rw [hw2]; exact HB3.out
  have d1_ := (blk_cell hb32 1).trans (Eq.refl (some (Value.string ss)))
  have d5_ := (blk_cell hb32 5).trans (Eq.refl (some (Value.int .i64 xn)))
  have d6_ := (blk_cell hb32 6).trans (Eq.refl (some (Value.int .i64 xm)))
  have t0_ := (blk_cell hT2.blk 0).trans (Eq.refl (some (Value.pointer (some ⟨g, 0, none⟩))))
  have t1_ := (blk_cell hT2.blk 1).trans (Eq.refl (some (Value.slice Ar xs.length cr)))
  have t2_ := (blk_cell hT2.blk 2).trans (Eq.refl (some (Value.slice Ak ks.length ck)))
  have t3_ := (blk_cell hT2.blk 3).trans (Eq.refl (some (Value.slice Aw ks.length cw)))
  have HT2 := Lib.hid hT2
  clear hw2 hT2 hb32 d0 d1 d5 d6 t0 t1 t2 t3
  have HF2 := Lib.hid (fun n => rfind_calls ss xs Ar cr base bT (w2.drewN n) (show (w2.drewN n).cell? ⟨bT, 1, none⟩ = _ from t1_) HT2.out.rr)
  rw [hpf] at HF2
  go_quiet ((first | (go_at_call 35; exact Calls.quiet_of_same (HF2.out _))))
  go_wp2
  go_ret
  exact ⟨by simp, .same HH.out (pw_below_drewN HB2.out _)⟩

set_option maxRecDepth 100000 in
set_option maxHeartbeats 2000000 in
theorem step_find_none (base : Nat) (f : Nat → Prop) (xd xn xm p0 p1 : Int) (ss : ByteArray) (xf : Nat) (W : World) (bT g m : Nat) (v r kp we : Value) (xs : List ByteArray) (ks : List KE) (h : Tx base f W bT g m v r kp we xs ks) (hd : xd = 2) (hi : xs.findIdx? (fun b => eqk ss b) = none) :
    Calls Try.prog 18 #[.pointer (some ⟨bT, 0, none⟩), .agg #[.int .i64 xd, .string ss, .float .f64 xf, .int .i64 p0, .int .i64 p1, .int .i64 xn, .int .i64 xm]] W fun e W' => e = .returned (.bool true) ∧ StepQ base f W bT g m ks.length W' := by
  obtain ⟨Ar, cr, rfl⟩ := own_slice h.rr
  obtain ⟨Ak, ck, rfl⟩ := own_slice h.kk
  obtain ⟨Aw, cw, rfl⟩ := own_slice h.ww
  have HH := Lib.hid h
  clear h
  have hd1 : (xd == 1) = false := beq_eq_false_iff_ne.2 (by omega)
  have hd2 : (xd == 2) = true := beq_iff_eq.2 hd
  clear hd
  have hx2 : (xs.length : Int) ≤ 1048576 := by have := HH.out.hle; omega
  have hpf : pf xs ss = (0, false) := by simp only [pf, hi]
  have HI := Lib.hid hi
  clear hi
  go_enter Try.func18, Try.ntmps18
  go_wp2_with (first | ((with_reducible refine gate_dst (N := 3) rfl ?_); refine box_event rfl (N := 3) rfl (cs := #[.int .i64 xd, .string ss, .float .f64 xf, .int .i64 p0, .int .i64 p1, .int .i64 xn, .int .i64 xm]) (t := 50) ?hr ?_; (case hr => first | (go_simp; done) | (go_simp; rfl)); intro b3 hg_ w1 hb3 hB1; have HL3 := Lib.hid (show W.heap.size ≤ b3 from by rw [hg_]; exact Nat.le_refl _); clear hg_; have d0 := (blk_cell hb3 0).trans (Eq.refl (some (Value.int .i64 xd))); have d1 := (blk_cell hb3 1).trans (Eq.refl (some (Value.string ss))); have d5 := (blk_cell hb3 5).trans (Eq.refl (some (Value.int .i64 xn))); have d6 := (blk_cell hb3 6).trans (Eq.refl (some (Value.int .i64 xm))); have hT1 := HH.out.below hB1; have HT1 := Lib.hid hT1; have t0 := (blk_cell hT1.blk 0).trans (Eq.refl (some (Value.pointer (some ⟨g, 0, none⟩)))); have t1 := (blk_cell hT1.blk 1).trans (Eq.refl (some (Value.slice Ar xs.length cr))); have t2 := (blk_cell hT1.blk 2).trans (Eq.refl (some (Value.slice Ak ks.length ck))); have t3 := (blk_cell hT1.blk 3).trans (Eq.refl (some (Value.slice Aw ks.length cw))); have HB1 := Lib.hid hB1; have HB3 := Lib.hid hb3; clear hb3 hB1 hT1))
  go_quiet ((first | (go_at_call 11; exact Calls.quiet_of_same (IxS.find_none ss xs base g m v _ (idx_move HT1.out.I (fun _ _ _ => rfl)) HI.out))))
  go_wp2_with fail
  refine any_drewC (w1 := w1) ?_ _
  rintro w2 ⟨n2, hw2⟩
  have hT2 : Tx base f w2 bT g m v (.slice Ar xs.length cr) (.slice Ak ks.length ck) (.slice Aw ks.length cw) xs ks := by rw [hw2]; exact HT1.out.below (pw_below_drewN (Below.refl _ _) _)
  have HB2 := Lib.hid (show Below W.heap.size W w2 from by rw [hw2]; exact pw_below_drewN HB1.out _)
  have hb32 : w2.heap[b3]? = some (.cells #[.int .i64 xd, .string ss, .float .f64 xf, .int .i64 p0, .int .i64 p1, .int .i64 xn, .int .i64 xm] 50 (0, 0)) := by rw [hw2]; exact HB3.out
  have d1_ := (blk_cell hb32 1).trans (Eq.refl (some (Value.string ss)))
  have d5_ := (blk_cell hb32 5).trans (Eq.refl (some (Value.int .i64 xn)))
  have d6_ := (blk_cell hb32 6).trans (Eq.refl (some (Value.int .i64 xm)))
  have t0_ := (blk_cell hT2.blk 0).trans (Eq.refl (some (Value.pointer (some ⟨g, 0, none⟩))))
  have t1_ := (blk_cell hT2.blk 1).trans (Eq.refl (some (Value.slice Ar xs.length cr)))
  have t2_ := (blk_cell hT2.blk 2).trans (Eq.refl (some (Value.slice Ak ks.length ck)))
  have t3_ := (blk_cell hT2.blk 3).trans (Eq.refl (some (Value.slice Aw ks.length cw)))
  have HT2 := Lib.hid hT2
  clear hw2 hT2 hb32 d0 d1 d5 d6 t0 t1 t2 t3
  have HF2 := Lib.hid (fun n => rfind_calls ss xs Ar cr base bT (w2.drewN n) (show (w2.drewN n).cell? ⟨bT, 1, none⟩ = _ from t1_) HT2.out.rr)
  rw [hpf] at HF2
  go_quiet ((first | (go_at_call 35; exact Calls.quiet_of_same (HF2.out _))))
  go_wp2
  go_ret
  exact ⟨by simp, .same HH.out (pw_below_drewN HB2.out _)⟩

set_option maxRecDepth 100000 in
set_option maxHeartbeats 2000000 in
theorem step_at_found (base : Nat) (f : Nat → Prop) (xd xn xm p0 p1 : Int) (ss : ByteArray) (xf : Nat) (W : World) (bT g m : Nat) (v r kp we : Value) (xs : List ByteArray) (ks : List KE) (h : Tx base f W bT g m v r kp we xs ks) (hd : xd = 3) (h1 : 1 ≤ xn) (h2 : xn ≤ xs.length) :
    Calls Try.prog 18 #[.pointer (some ⟨bT, 0, none⟩), .agg #[.int .i64 xd, .string ss, .float .f64 xf, .int .i64 p0, .int .i64 p1, .int .i64 xn, .int .i64 xm]] W fun e W' => e = .returned (.bool true) ∧ StepQ base f W bT g m ks.length W' := by
  obtain ⟨Ar, cr, rfl⟩ := own_slice h.rr
  obtain ⟨Ak, ck, rfl⟩ := own_slice h.kk
  obtain ⟨Aw, cw, rfl⟩ := own_slice h.ww
  have HH := Lib.hid h
  clear h
  have hd1 : (xd == 1) = false := beq_eq_false_iff_ne.2 (by omega)
  have hd2 : (xd == 2) = false := beq_eq_false_iff_ne.2 (by omega)
  have hd3 : (xd == 3) = true := beq_iff_eq.2 hd
  clear hd
  have hx2 : (xs.length : Int) ≤ 1048576 := by have := HH.out.hle; omega
  have H1 := Lib.hid h1
  have H2 := Lib.hid h2
  clear h1 h2
  have hyy : (rdOf ByteArray.empty xs (xn - 1) == rdOf ByteArray.empty xs (xn - 1)) = true := (eqk_iff _ _).2 rfl
  go_enter Try.func18, Try.ntmps18
  go_wp2_with (first | ((with_reducible refine gate_dst (N := 3) rfl ?_); refine box_event rfl (N := 3) rfl (cs := #[.int .i64 xd, .string ss, .float .f64 xf, .int .i64 p0, .int .i64 p1, .int .i64 xn, .int .i64 xm]) (t := 50) ?hr ?_; (case hr => first | (go_simp; done) | (go_simp; rfl)); intro b3 hg_ w1 hb3 hB1; have HL3 := Lib.hid (show W.heap.size ≤ b3 from by rw [hg_]; exact Nat.le_refl _); clear hg_; have d0 := (blk_cell hb3 0).trans (Eq.refl (some (Value.int .i64 xd))); have d1 := (blk_cell hb3 1).trans (Eq.refl (some (Value.string ss))); have d5 := (blk_cell hb3 5).trans (Eq.refl (some (Value.int .i64 xn))); have d6 := (blk_cell hb3 6).trans (Eq.refl (some (Value.int .i64 xm))); have hT1 := HH.out.below hB1; have HT1 := Lib.hid hT1; have t0 := (blk_cell hT1.blk 0).trans (Eq.refl (some (Value.pointer (some ⟨g, 0, none⟩)))); have t1 := (blk_cell hT1.blk 1).trans (Eq.refl (some (Value.slice Ar xs.length cr))); have t2 := (blk_cell hT1.blk 2).trans (Eq.refl (some (Value.slice Ak ks.length ck))); have t3 := (blk_cell hT1.blk 3).trans (Eq.refl (some (Value.slice Aw ks.length cw))); have HB1 := Lib.hid hB1; have HB3 := Lib.hid hb3; clear hb3 hB1 hT1))
  go_quiet ((first | (go_at_call 12; exact Calls.quiet_of_same (IxS.at_found xn xs base g m v _ (idx_move HT1.out.I (fun _ _ _ => rfl)) H1.out H2.out))))
  go_wp2_with fail
  refine any_drewC (w1 := w1) ?_ _
  rintro w2 ⟨n2, hw2⟩
  have hT2 : Tx base f w2 bT g m v (.slice Ar xs.length cr) (.slice Ak ks.length ck) (.slice Aw ks.length cw) xs ks := by rw [hw2]; exact HT1.out.below (pw_below_drewN (Below.refl _ _) _)
  have HB2 := Lib.hid (show Below W.heap.size W w2 from by rw [hw2]; exact pw_below_drewN HB1.out _)
  have hb32 : w2.heap[b3]? = some (.cells #[.int .i64 xd, .string ss, .float .f64 xf, .int .i64 p0, .int .i64 p1, .int .i64 xn, .int .i64 xm] 50 (0, 0)) := by rw [hw2]; exact HB3.out
  have d1_ := (blk_cell hb32 1).trans (Eq.refl (some (Value.string ss)))
  have d5_ := (blk_cell hb32 5).trans (Eq.refl (some (Value.int .i64 xn)))
  have d6_ := (blk_cell hb32 6).trans (Eq.refl (some (Value.int .i64 xm)))
  have t0_ := (blk_cell hT2.blk 0).trans (Eq.refl (some (Value.pointer (some ⟨g, 0, none⟩))))
  have t1_ := (blk_cell hT2.blk 1).trans (Eq.refl (some (Value.slice Ar xs.length cr)))
  have t2_ := (blk_cell hT2.blk 2).trans (Eq.refl (some (Value.slice Ak ks.length ck)))
  have t3_ := (blk_cell hT2.blk 3).trans (Eq.refl (some (Value.slice Aw ks.length cw)))
  have HT2 := Lib.hid hT2
  clear hw2 hT2 hb32 d0 d1 d5 d6 t0 t1 t2 t3
  go_quiet ((first | (go_at_call 36; exact Calls.quiet_of_same (rat_found xn xs base bT (.pointer (some ⟨g, 0, none⟩)) (.slice Ar xs.length cr) (.slice Ak ks.length ck) (.slice Aw ks.length cw) _ (by exact ⟨HT2.out.blk, HT2.out.rr⟩) H1.out H2.out))))
  go_wp2
  go_ret
  exact ⟨by simp, .same HH.out (pw_below_drewN HB2.out _)⟩

set_option maxRecDepth 100000 in
set_option maxHeartbeats 2000000 in
theorem step_at_low (base : Nat) (f : Nat → Prop) (xd xn xm p0 p1 : Int) (ss : ByteArray) (xf : Nat) (W : World) (bT g m : Nat) (v r kp we : Value) (xs : List ByteArray) (ks : List KE) (h : Tx base f W bT g m v r kp we xs ks) (hd : xd = 3) (h1 : xn < 1) :
    Calls Try.prog 18 #[.pointer (some ⟨bT, 0, none⟩), .agg #[.int .i64 xd, .string ss, .float .f64 xf, .int .i64 p0, .int .i64 p1, .int .i64 xn, .int .i64 xm]] W fun e W' => e = .returned (.bool true) ∧ StepQ base f W bT g m ks.length W' := by
  obtain ⟨Ar, cr, rfl⟩ := own_slice h.rr
  obtain ⟨Ak, ck, rfl⟩ := own_slice h.kk
  obtain ⟨Aw, cw, rfl⟩ := own_slice h.ww
  have HH := Lib.hid h
  clear h
  have hd1 : (xd == 1) = false := beq_eq_false_iff_ne.2 (by omega)
  have hd2 : (xd == 2) = false := beq_eq_false_iff_ne.2 (by omega)
  have hd3 : (xd == 3) = true := beq_iff_eq.2 hd
  clear hd
  have hx2 : (xs.length : Int) ≤ 1048576 := by have := HH.out.hle; omega
  have H1 := Lib.hid h1
  clear h1
  go_enter Try.func18, Try.ntmps18
  go_wp2_with (first | ((with_reducible refine gate_dst (N := 3) rfl ?_); refine box_event rfl (N := 3) rfl (cs := #[.int .i64 xd, .string ss, .float .f64 xf, .int .i64 p0, .int .i64 p1, .int .i64 xn, .int .i64 xm]) (t := 50) ?hr ?_; (case hr => first | (go_simp; done) | (go_simp; rfl)); intro b3 hg_ w1 hb3 hB1; have HL3 := Lib.hid (show W.heap.size ≤ b3 from by rw [hg_]; exact Nat.le_refl _); clear hg_; have d0 := (blk_cell hb3 0).trans (Eq.refl (some (Value.int .i64 xd))); have d1 := (blk_cell hb3 1).trans (Eq.refl (some (Value.string ss))); have d5 := (blk_cell hb3 5).trans (Eq.refl (some (Value.int .i64 xn))); have d6 := (blk_cell hb3 6).trans (Eq.refl (some (Value.int .i64 xm))); have hT1 := HH.out.below hB1; have HT1 := Lib.hid hT1; have t0 := (blk_cell hT1.blk 0).trans (Eq.refl (some (Value.pointer (some ⟨g, 0, none⟩)))); have t1 := (blk_cell hT1.blk 1).trans (Eq.refl (some (Value.slice Ar xs.length cr))); have t2 := (blk_cell hT1.blk 2).trans (Eq.refl (some (Value.slice Ak ks.length ck))); have t3 := (blk_cell hT1.blk 3).trans (Eq.refl (some (Value.slice Aw ks.length cw))); have HB1 := Lib.hid hB1; have HB3 := Lib.hid hb3; clear hb3 hB1 hT1))
  go_quiet ((first | (go_at_call 12; exact Calls.quiet_of_same (IxS.at_low xn xs base g m v _ (idx_move HT1.out.I (fun _ _ _ => rfl)) H1.out))))
  go_wp2_with fail
  refine any_drewC (w1 := w1) ?_ _
  rintro w2 ⟨n2, hw2⟩
  have hT2 : Tx base f w2 bT g m v (.slice Ar xs.length cr) (.slice Ak ks.length ck) (.slice Aw ks.length cw) xs ks := by rw [hw2]; exact HT1.out.below (pw_below_drewN (Below.refl _ _) _)
  have HB2 := Lib.hid (show Below W.heap.size W w2 from by rw [hw2]; exact pw_below_drewN HB1.out _)
  have hb32 : w2.heap[b3]? = some (.cells #[.int .i64 xd, .string ss, .float .f64 xf, .int .i64 p0, .int .i64 p1, .int .i64 xn, .int .i64 xm] 50 (0, 0)) := by rw [hw2]; exact HB3.out
  have d1_ := (blk_cell hb32 1).trans (Eq.refl (some (Value.string ss)))
  have d5_ := (blk_cell hb32 5).trans (Eq.refl (some (Value.int .i64 xn)))
  have d6_ := (blk_cell hb32 6).trans (Eq.refl (some (Value.int .i64 xm)))
  have t0_ := (blk_cell hT2.blk 0).trans (Eq.refl (some (Value.pointer (some ⟨g, 0, none⟩))))
  have t1_ := (blk_cell hT2.blk 1).trans (Eq.refl (some (Value.slice Ar xs.length cr)))
  have t2_ := (blk_cell hT2.blk 2).trans (Eq.refl (some (Value.slice Ak ks.length ck)))
  have t3_ := (blk_cell hT2.blk 3).trans (Eq.refl (some (Value.slice Aw ks.length cw)))
  have HT2 := Lib.hid hT2
  clear hw2 hT2 hb32 d0 d1 d5 d6 t0 t1 t2 t3
  go_quiet ((first | (go_at_call 36; exact Calls.quiet_of_same (rat_low xn xs base bT (.pointer (some ⟨g, 0, none⟩)) (.slice Ar xs.length cr) (.slice Ak ks.length ck) (.slice Aw ks.length cw) _ (by exact ⟨HT2.out.blk, HT2.out.rr⟩) H1.out))))
  go_wp2
  go_ret
  exact ⟨by simp, .same HH.out (pw_below_drewN HB2.out _)⟩

set_option maxRecDepth 100000 in
set_option maxHeartbeats 2000000 in
theorem step_at_high (base : Nat) (f : Nat → Prop) (xd xn xm p0 p1 : Int) (ss : ByteArray) (xf : Nat) (W : World) (bT g m : Nat) (v r kp we : Value) (xs : List ByteArray) (ks : List KE) (h : Tx base f W bT g m v r kp we xs ks) (hd : xd = 3) (h1 : (xs.length : Int) < xn) :
    Calls Try.prog 18 #[.pointer (some ⟨bT, 0, none⟩), .agg #[.int .i64 xd, .string ss, .float .f64 xf, .int .i64 p0, .int .i64 p1, .int .i64 xn, .int .i64 xm]] W fun e W' => e = .returned (.bool true) ∧ StepQ base f W bT g m ks.length W' := by
  obtain ⟨Ar, cr, rfl⟩ := own_slice h.rr
  obtain ⟨Ak, ck, rfl⟩ := own_slice h.kk
  obtain ⟨Aw, cw, rfl⟩ := own_slice h.ww
  have HH := Lib.hid h
  clear h
  have hd1 : (xd == 1) = false := beq_eq_false_iff_ne.2 (by omega)
  have hd2 : (xd == 2) = false := beq_eq_false_iff_ne.2 (by omega)
  have hd3 : (xd == 3) = true := beq_iff_eq.2 hd
  clear hd
  have hx2 : (xs.length : Int) ≤ 1048576 := by have := HH.out.hle; omega
  have H1 := Lib.hid h1
  clear h1
  go_enter Try.func18, Try.ntmps18
  go_wp2_with (first | ((with_reducible refine gate_dst (N := 3) rfl ?_); refine box_event rfl (N := 3) rfl (cs := #[.int .i64 xd, .string ss, .float .f64 xf, .int .i64 p0, .int .i64 p1, .int .i64 xn, .int .i64 xm]) (t := 50) ?hr ?_; (case hr => first | (go_simp; done) | (go_simp; rfl)); intro b3 hg_ w1 hb3 hB1; have HL3 := Lib.hid (show W.heap.size ≤ b3 from by rw [hg_]; exact Nat.le_refl _); clear hg_; have d0 := (blk_cell hb3 0).trans (Eq.refl (some (Value.int .i64 xd))); have d1 := (blk_cell hb3 1).trans (Eq.refl (some (Value.string ss))); have d5 := (blk_cell hb3 5).trans (Eq.refl (some (Value.int .i64 xn))); have d6 := (blk_cell hb3 6).trans (Eq.refl (some (Value.int .i64 xm))); have hT1 := HH.out.below hB1; have HT1 := Lib.hid hT1; have t0 := (blk_cell hT1.blk 0).trans (Eq.refl (some (Value.pointer (some ⟨g, 0, none⟩)))); have t1 := (blk_cell hT1.blk 1).trans (Eq.refl (some (Value.slice Ar xs.length cr))); have t2 := (blk_cell hT1.blk 2).trans (Eq.refl (some (Value.slice Ak ks.length ck))); have t3 := (blk_cell hT1.blk 3).trans (Eq.refl (some (Value.slice Aw ks.length cw))); have HB1 := Lib.hid hB1; have HB3 := Lib.hid hb3; clear hb3 hB1 hT1))
  go_quiet ((first | (go_at_call 12; exact Calls.quiet_of_same (IxS.at_high xn xs base g m v _ (idx_move HT1.out.I (fun _ _ _ => rfl)) H1.out))))
  go_wp2_with fail
  refine any_drewC (w1 := w1) ?_ _
  rintro w2 ⟨n2, hw2⟩
  have hT2 : Tx base f w2 bT g m v (.slice Ar xs.length cr) (.slice Ak ks.length ck) (.slice Aw ks.length cw) xs ks := by rw [hw2]; exact HT1.out.below (pw_below_drewN (Below.refl _ _) _)
  have HB2 := Lib.hid (show Below W.heap.size W w2 from by rw [hw2]; exact pw_below_drewN HB1.out _)
  have hb32 : w2.heap[b3]? = some (.cells #[.int .i64 xd, .string ss, .float .f64 xf, .int .i64 p0, .int .i64 p1, .int .i64 xn, .int .i64 xm] 50 (0, 0)) := by rw [hw2]; exact HB3.out
  have d1_ := (blk_cell hb32 1).trans (Eq.refl (some (Value.string ss)))
  have d5_ := (blk_cell hb32 5).trans (Eq.refl (some (Value.int .i64 xn)))
  have d6_ := (blk_cell hb32 6).trans (Eq.refl (some (Value.int .i64 xm)))
  have t0_ := (blk_cell hT2.blk 0).trans (Eq.refl (some (Value.pointer (some ⟨g, 0, none⟩))))
  have t1_ := (blk_cell hT2.blk 1).trans (Eq.refl (some (Value.slice Ar xs.length cr)))
  have t2_ := (blk_cell hT2.blk 2).trans (Eq.refl (some (Value.slice Ak ks.length ck)))
  have t3_ := (blk_cell hT2.blk 3).trans (Eq.refl (some (Value.slice Aw ks.length cw)))
  have HT2 := Lib.hid hT2
  clear hw2 hT2 hb32 d0 d1 d5 d6 t0 t1 t2 t3
  go_quiet ((first | (go_at_call 36; exact Calls.quiet_of_same (rat_high xn xs base bT (.pointer (some ⟨g, 0, none⟩)) (.slice Ar xs.length cr) (.slice Ak ks.length ck) (.slice Aw ks.length cw) _ (by exact ⟨HT2.out.blk, HT2.out.rr⟩) H1.out))))
  go_wp2
  go_ret
  exact ⟨by simp, .same HH.out (pw_below_drewN HB2.out _)⟩

set_option maxRecDepth 100000 in
set_option maxHeartbeats 2000000 in
theorem step_len (base : Nat) (f : Nat → Prop) (xd xn xm p0 p1 : Int) (ss : ByteArray) (xf : Nat) (W : World) (bT g m : Nat) (v r kp we : Value) (xs : List ByteArray) (ks : List KE) (h : Tx base f W bT g m v r kp we xs ks) (hd : xd = 4) :
    Calls Try.prog 18 #[.pointer (some ⟨bT, 0, none⟩), .agg #[.int .i64 xd, .string ss, .float .f64 xf, .int .i64 p0, .int .i64 p1, .int .i64 xn, .int .i64 xm]] W fun e W' => e = .returned (.bool true) ∧ StepQ base f W bT g m ks.length W' := by
  obtain ⟨Ar, cr, rfl⟩ := own_slice h.rr
  obtain ⟨Ak, ck, rfl⟩ := own_slice h.kk
  obtain ⟨Aw, cw, rfl⟩ := own_slice h.ww
  have HH := Lib.hid h
  clear h
  have hd1 : (xd == 1) = false := beq_eq_false_iff_ne.2 (by omega)
  have hd2 : (xd == 2) = false := beq_eq_false_iff_ne.2 (by omega)
  have hd3 : (xd == 3) = false := beq_eq_false_iff_ne.2 (by omega)
  have hd4 : (xd == 4) = true := beq_iff_eq.2 hd
  clear hd
  have hx2 : (xs.length : Int) ≤ 1048576 := by have := HH.out.hle; omega
  go_enter Try.func18, Try.ntmps18
  go_wp2_with (first | ((with_reducible refine gate_dst (N := 3) rfl ?_); refine box_event rfl (N := 3) rfl (cs := #[.int .i64 xd, .string ss, .float .f64 xf, .int .i64 p0, .int .i64 p1, .int .i64 xn, .int .i64 xm]) (t := 50) ?hr ?_; (case hr => first | (go_simp; done) | (go_simp; rfl)); intro b3 hg_ w1 hb3 hB1; have HL3 := Lib.hid (show W.heap.size ≤ b3 from by rw [hg_]; exact Nat.le_refl _); clear hg_; have d0 := (blk_cell hb3 0).trans (Eq.refl (some (Value.int .i64 xd))); have d1 := (blk_cell hb3 1).trans (Eq.refl (some (Value.string ss))); have d5 := (blk_cell hb3 5).trans (Eq.refl (some (Value.int .i64 xn))); have d6 := (blk_cell hb3 6).trans (Eq.refl (some (Value.int .i64 xm))); have hT1 := HH.out.below hB1; have HT1 := Lib.hid hT1; have t0 := (blk_cell hT1.blk 0).trans (Eq.refl (some (Value.pointer (some ⟨g, 0, none⟩)))); have t1 := (blk_cell hT1.blk 1).trans (Eq.refl (some (Value.slice Ar xs.length cr))); have t2 := (blk_cell hT1.blk 2).trans (Eq.refl (some (Value.slice Ak ks.length ck))); have t3 := (blk_cell hT1.blk 3).trans (Eq.refl (some (Value.slice Aw ks.length cw))); have HB1 := Lib.hid hB1; have HB3 := Lib.hid hb3; clear hb3 hB1 hT1))
  go_quiet ((first | (go_at_call 10; exact Calls.quiet_of_same (IxS.len_calls xs base g m v _ (idx_move HT1.out.I (fun _ _ _ => rfl))))))
  go_wp2
  go_ret
  exact ⟨by simp, .same HH.out (pw_below_drewN HB1.out _)⟩

theorem fneq (w : World) (n b : Nat) : (binOp .neq 83 (.func (.func n) #[] #[.pointer (some ⟨b, 0, none⟩)]) .nilFunc).run Try.prog w = .ok (.bool true) w := by kernel_rfl
attribute [local go_sem high] fneq
theorem reads_own {base : Nat} {w : World} {A : Option Addr} {c : Nat} {xs : List ByteArray} (h : w.ownsRow base 9 1 (.slice A xs.length c) xs.length (encs Value.string xs)) : ReadsRow (Kd.string.K w) Kd.string.sz w A xs.length xs := by
  obtain ⟨A', c', e, _, hC⟩ := Kd.R_reads (Kd.R_of_own (h1 := fun _ => rfl) (ok := fun _ => True) h (fun _ _ => trivial))
  injection e with e1 _ _
  subst e1
  exact hC
theorem info82 : (Try.prog.info? 82).map (fun i => (i.zero, i.size, i.bytes)) = some (some .nilFunc, 1, 8) := by kernel_rfl
theorem info22 : (Try.prog.info? 22).map (fun i => (i.zero, i.size, i.bytes)) = some (some (.slice none 0 0), 1, 24) := by kernel_rfl

set_option maxRecDepth 100000 in
set_option maxHeartbeats 2000000 in
theorem step_all (base : Nat) (f : Nat → Prop) (xd xn xm p0 p1 : Int) (ss : ByteArray) (xf : Nat) (W : World) (bT g m : Nat) (v r kp we : Value) (xs : List ByteArray) (ks : List KE) (h : Tx base f W bT g m v r kp we xs ks) (hf : ∀ k, f k → k < W.heap.size) (hk : (ks.length + 1) * 24 ≤ 140737488355328) (hd : xd = 5) :
    Calls Try.prog 18 #[.pointer (some ⟨bT, 0, none⟩), .agg #[.int .i64 xd, .string ss, .float .f64 xf, .int .i64 p0, .int .i64 p1, .int .i64 xn, .int .i64 xm]] W fun e W' => e = .returned (.bool true) ∧ StepQ base f W bT g m ks.length W' := by
  obtain ⟨Ar, cr, rfl⟩ := own_slice h.rr
  obtain ⟨Ak, ck, rfl⟩ := own_slice h.kk
  obtain ⟨Aw, cw, rfl⟩ := own_slice h.ww
  have HH := Lib.hid h
  clear h
  have hd1 : (xd == 1) = false := beq_eq_false_iff_ne.2 (by omega)
  have hd2 : (xd == 2) = false := beq_eq_false_iff_ne.2 (by omega)
  have hd3 : (xd == 3) = false := beq_eq_false_iff_ne.2 (by omega)
  have hd4 : (xd == 4) = false := beq_eq_false_iff_ne.2 (by omega)
  have hd5 : (xd == 5) = true := beq_iff_eq.2 hd
  clear hd
  obtain ⟨Av, cv, rfl⟩ := own_slice HH.out.I.row
  have HF := Lib.hid hf
  have HK := Lib.hid hk
  have hkl : (ks.length : Int) ≤ 5864062014805 := by omega
  clear hf hk
  go_enter Try.func18, Try.ntmps18
  go_upto_region 20 with (first | ((with_reducible refine gate_dst (N := 3) rfl ?_); refine box_event rfl (N := 3) rfl (cs := #[.int .i64 xd, .string ss, .float .f64 xf, .int .i64 p0, .int .i64 p1, .int .i64 xn, .int .i64 xm]) (t := 50) ?hr ?_; (case hr => first | (go_simp; done) | (go_simp; rfl)); intro b3 hg_ w1 hb3 hB1; have HL3 := Lib.hid (show W.heap.size ≤ b3 from by rw [hg_]; exact Nat.le_refl _); clear hg_; have d0 := (blk_cell hb3 0).trans (Eq.refl (some (Value.int .i64 xd))); have d1 := (blk_cell hb3 1).trans (Eq.refl (some (Value.string ss))); have d5 := (blk_cell hb3 5).trans (Eq.refl (some (Value.int .i64 xn))); have d6 := (blk_cell hb3 6).trans (Eq.refl (some (Value.int .i64 xm))); have hT1 := HH.out.below hB1; have HT1 := Lib.hid hT1; have t0 := (blk_cell hT1.blk 0).trans (Eq.refl (some (Value.pointer (some ⟨g, 0, none⟩)))); have t1 := (blk_cell hT1.blk 1).trans (Eq.refl (some (Value.slice Ar xs.length cr))); have t2 := (blk_cell hT1.blk 2).trans (Eq.refl (some (Value.slice Ak ks.length ck))); have t3 := (blk_cell hT1.blk 3).trans (Eq.refl (some (Value.slice Aw ks.length cw))); have HB1 := Lib.hid hB1; have HB3 := Lib.hid hb3; clear hb3 hB1 hT1) | (at_builtin; (refine Kd.R_append_rows Kd.string (Rr := Kd.string.K w1) (w0 := w1) w1.heap.size rfl _ _ 22 9 (.string ⟨#[]⟩) 16 rfl Try.underlying22 info9 rfl (by decide) (by decide) (.slice none 0 0) [] xs Ar xs.length cr (fun _ => True) (fun _ => False) rfl rfl (Kd.R_nil _ _ _ _ _) (by exact reads_own HT1.out.rr) (fun _ _ h => h) (fun _ h => h.elim) (fun _ _ => trivial) (Below.refl _ _) (Nat.le_refl _) (by have := HH.out.hle; simp; omega) ?_); intro u w2 hR hb2 hg2 hat2; have hown := Kd.own_of_R hR; rw [List.nil_append] at hown; obtain ⟨Au, cu, hu_⟩ := own_slice hown; subst hu_; have HU := Lib.hid (rds_own hown HH.out.hle); have HB2 := Lib.hid hb2; have hT2 := HT1.out.below hb2; have HT2 := Lib.hid hT2; have t0_ := (blk_cell hT2.blk 0).trans (Eq.refl (some (Value.pointer (some ⟨g, 0, none⟩)))); have HI2 := Lib.hid hT2.I; clear hR hb2 hg2 hat2 hown hT2 t0 t1 t2 t3 d0 d1 d5 d6) | (go_at_call 37; go_must (refine (IxS.all_calls xs base g m cv Av _ (by exact HI2.out)).mono ?_); rintro e w3 ⟨rfl, hbx, hsz, hB3⟩; have HB3_ := Lib.hid hB3; have HBX := Lib.hid hbx; have hT3 := HT2.out.below hB3; have HT3 := Lib.hid hT3; have t2_ := (blk_cell hT3.blk 2).trans (Eq.refl (some (Value.slice Ak ks.length ck))); clear hbx hsz hB3 hT3 t0_; obtain ⟨bx, hbxn⟩ : ∃ b, b = w2.heap.size := ⟨_, rfl⟩; rw [← hbxn] at HBX ⊢; have HBN := Lib.hid hbxn; clear hbxn) | (at_builtin; go_must (refine print_append_of kV base rfl _ _ 42 82 .nilFunc 8 rfl Try.underlying42 info82 rfl (by decide) (.slice Ak ks.length ck) ks ⟨bx, Av, .slice Au xs.length cu, xs⟩ rfl rfl rfl HT3.out.kk (Below.refl base _) HT3.out.base_le (by have := HK.out; omega) ?_); intro kp' w4 hown hb4 hg4 hat4; obtain ⟨A1, c1, hv⟩ := own_slice hown; rw [hv]; rw [hv] at hown hat4; clear hv; have hblk := (hg4.block bT (lt_of_get HT3.out.blk) (own_ne HT3.out.kk HT3.out.blk (by decide))).trans HT3.out.blk; have hf2 := (cell_of hblk 2).2; have hc2 := (cell_of hblk 2).1; have HOW := Lib.hid hown; have HB4 := Lib.hid hb4; have HG4 := Lib.hid hg4; have HA4 := Lib.hid hat4; have HK4 := Lib.hid hblk; clear hown hb4 hg4 hat4 hblk t2_))
  obtain ⟨w5, hw5⟩ : ∃ w5, w5 = w4.setCell ⟨bT, 2, none⟩ (.slice A1 (ks.length + 1) c1) := ⟨_, rfl⟩
  rw [← hw5]
  have hl2 : (ks ++ [(⟨bx, Av, .slice Au xs.length cu, xs⟩ : KE)]).length = ks.length + 1 := by simp
  have hk5 : w5.heap[bT]? = some (.cells #[.pointer (some ⟨g, 0, none⟩), .slice Ar xs.length cr, .slice A1 (ks.length + 1) c1, .slice Aw ks.length cw] 45 (0, 0)) := by rw [hw5]; exact blk_set HK4.out 2 _
  have hww4 : w4.ownsRow base 22 1 (.slice Aw ks.length cw) ks.length (encs KE.u ks) := own_heap HT3.out.ww (fun k hk => by
    obtain ⟨cs, hcs⟩ := own_typed HT3.out.ww k hk
    exact HG4.out.block k (lt_of_get hcs) (own_ne HT3.out.kk hcs (by decide)))
  have hww5 : w5.ownsRow base 22 1 (.slice Aw ks.length cw) ks.length (encs KE.u ks) := by rw [hw5]; exact own_setCell hww4 (p := ⟨bT, 2, none⟩) (own_ne hww4 HK4.out (by decide)) _
  have t3_ := (blk_cell hk5 3).trans (Eq.refl (some (Value.slice Aw ks.length cw)))
  have HK5 := Lib.hid hk5
  have HW5 := Lib.hid hww5
  have HS5 := Lib.hid (show base ≤ w5.heap.size from Nat.le_trans HH.out.hb (Nat.le_of_lt (lt_of_get hk5)))
  have HW5_ := Lib.hid hw5
  clear hw5 hl2 hk5 hww4 hww5 hc2 hf2
  go_wp2_with (first | (at_builtin; go_must (refine print_append_of KE.u base rfl _ _ 43 22 (.slice none 0 0) 24 rfl Try.underlying43 info22 rfl (by decide) (.slice Aw ks.length cw) ks ⟨bx, Av, .slice Au xs.length cu, xs⟩ rfl rfl rfl HW5.out (Below.refl base _) HS5.out (by have := HK.out; omega) ?_); intro we' w6 hown hb6 hg6 hat6; obtain ⟨A2, c2, hv⟩ := own_slice hown; rw [hv]; rw [hv] at hown hat6; clear hv; have hblk := (hg6.block bT (lt_of_get HK5.out) (own_ne HW5.out HK5.out (by decide))).trans HK5.out; have hf3 := (cell_of hblk 3).2; have hc3 := (cell_of hblk 3).1; have HO6 := Lib.hid hown; have HB6 := Lib.hid hb6; have HG6 := Lib.hid hg6; have HA6 := Lib.hid hat6; clear hown hb6 hg6 hat6 hblk t3_))
  go_ret
  have hl2 : (ks ++ [(⟨bx, Av, .slice Au xs.length cu, xs⟩ : KE)]).length = ks.length + 1 := by simp
  have hb3 : Below W.heap.size W w3 := HB1.out.trans ((HB2.out.mono HB1.out.size).trans (HB3_.out.mono (Nat.le_trans HB1.out.size HB2.out.size)))
  obtain ⟨h1, h2, h3⟩ := tx_all (W0 := W.heap.size) (e := ⟨bx, Av, .slice Au xs.length cu, xs⟩) HT3.out HF.out rfl rfl HBX.out (by rw [HBN.out]; exact Nat.le_trans HB1.out.size HB2.out.size) ((HU.out.below HB3_.out).move (fun _ _ _ => rfl) (fun k hk => Nat.le_trans HB1.out.size hk)) HOW.out HG4.out HA4.out (by rw [hl2]; exact HW5_.out) HO6.out HG6.out HA6.out rfl hb3.size
  rw [hl2] at h1 h2 h3
  exact ⟨rfl, _, _, _, _, _, _, _, h1, fun _ hk => hk, (Kept.of_below hb3 f).then_ h2 (fun _ hk => .inl hk), (hb3.mono HH.out.base_le).trans (h3 HB4.out HB6.out), by rw [hl2]; exact Nat.le_refl _⟩

set_option maxRecDepth 100000 in
set_option maxHeartbeats 2000000 in
theorem step_go_none (base : Nat) (f : Nat → Prop) (xd xn xm p0 p1 : Int) (ss : ByteArray) (xf : Nat) (W : World) (bT g m : Nat) (v r kp we : Value) (xs : List ByteArray) (ks : List KE) (h : Tx base f W bT g m v r kp we xs ks) (hn : (Lit.int .i64 xn).wf = true) (hk : (ks.length + 1) * 24 ≤ 140737488355328) (hd : xd = 6) (hw : whichF xn ks.length = -1) :
    Calls Try.prog 18 #[.pointer (some ⟨bT, 0, none⟩), .agg #[.int .i64 xd, .string ss, .float .f64 xf, .int .i64 p0, .int .i64 p1, .int .i64 xn, .int .i64 xm]] W fun e W' => e = .returned (.bool true) ∧ StepQ base f W bT g m ks.length W' := by
  obtain ⟨Ar, cr, rfl⟩ := own_slice h.rr
  obtain ⟨Ak, ck, rfl⟩ := own_slice h.kk
  obtain ⟨Aw, cw, rfl⟩ := own_slice h.ww
  have HH := Lib.hid h
  clear h
  have hd1 : (xd == 1) = false := beq_eq_false_iff_ne.2 (by omega)
  have hd2 : (xd == 2) = false := beq_eq_false_iff_ne.2 (by omega)
  have hd3 : (xd == 3) = false := beq_eq_false_iff_ne.2 (by omega)
  have hd4 : (xd == 4) = false := beq_eq_false_iff_ne.2 (by omega)
  have hd5 : (xd == 5) = false := beq_eq_false_iff_ne.2 (by omega)
  have hd6 : (xd == 6) = true := beq_iff_eq.2 hd
  clear hd
  have HW := Lib.hid (fun w => which_calls2 xn ks.length w hn (by omega))
  rw [hw] at HW
  have hkl : (ks.length : Int) ≤ 5864062014805 := by omega
  clear hn hw hk
  go_enter Try.func18, Try.ntmps18
  go_wp2_with (first | ((with_reducible refine gate_dst (N := 3) rfl ?_); refine box_event rfl (N := 3) rfl (cs := #[.int .i64 xd, .string ss, .float .f64 xf, .int .i64 p0, .int .i64 p1, .int .i64 xn, .int .i64 xm]) (t := 50) ?hr ?_; (case hr => first | (go_simp; done) | (go_simp; rfl)); intro b3 hg_ w1 hb3 hB1; have HL3 := Lib.hid (show W.heap.size ≤ b3 from by rw [hg_]; exact Nat.le_refl _); clear hg_; have d0 := (blk_cell hb3 0).trans (Eq.refl (some (Value.int .i64 xd))); have d1 := (blk_cell hb3 1).trans (Eq.refl (some (Value.string ss))); have d5 := (blk_cell hb3 5).trans (Eq.refl (some (Value.int .i64 xn))); have d6 := (blk_cell hb3 6).trans (Eq.refl (some (Value.int .i64 xm))); have hT1 := HH.out.below hB1; have HT1 := Lib.hid hT1; have t0 := (blk_cell hT1.blk 0).trans (Eq.refl (some (Value.pointer (some ⟨g, 0, none⟩)))); have t1 := (blk_cell hT1.blk 1).trans (Eq.refl (some (Value.slice Ar xs.length cr))); have t2 := (blk_cell hT1.blk 2).trans (Eq.refl (some (Value.slice Ak ks.length ck))); have t3 := (blk_cell hT1.blk 3).trans (Eq.refl (some (Value.slice Aw ks.length cw))); have HB1 := Lib.hid hB1; have HB3 := Lib.hid hb3; clear hb3 hB1 hT1))
  go_quiet ((first | (go_at_call 38; exact Calls.quiet_of_same (HW.out _))))
  go_wp2_with fail
  refine any_drewC (w1 := w1) ?_ _
  rintro w2 ⟨n2, hw2⟩
  have hT2 : Tx base f w2 bT g m v (.slice Ar xs.length cr) (.slice Ak ks.length ck) (.slice Aw ks.length cw) xs ks := by rw [hw2]; exact HT1.out.below (pw_below_drewN (Below.refl _ _) _)
  have HB2 := Lib.hid (show Below W.heap.size W w2 from by rw [hw2]; exact pw_below_drewN HB1.out _)
  have hb32 : w2.heap[b3]? = some (.cells #[.int .i64 xd, .string ss, .float .f64 xf, .int .i64 p0, .int .i64 p1, .int .i64 xn, .int .i64 xm] 50 (0, 0)) := by rw [hw2]; exact HB3.out
  have d1_ := (blk_cell hb32 1).trans (Eq.refl (some (Value.string ss)))
  have d5_ := (blk_cell hb32 5).trans (Eq.refl (some (Value.int .i64 xn)))
  have d6_ := (blk_cell hb32 6).trans (Eq.refl (some (Value.int .i64 xm)))
  have t0_ := (blk_cell hT2.blk 0).trans (Eq.refl (some (Value.pointer (some ⟨g, 0, none⟩))))
  have t1_ := (blk_cell hT2.blk 1).trans (Eq.refl (some (Value.slice Ar xs.length cr)))
  have t2_ := (blk_cell hT2.blk 2).trans (Eq.refl (some (Value.slice Ak ks.length ck)))
  have t3_ := (blk_cell hT2.blk 3).trans (Eq.refl (some (Value.slice Aw ks.length cw)))
  have HT2 := Lib.hid hT2
  clear hw2 hT2 hb32 d0 d1 d5 d6 t0 t1 t2 t3
  go_quiet (fail)
  go_wp2
  go_ret
  exact ⟨by simp, .same HH.out (pw_below_drewN HB2.out _)⟩

set_option maxRecDepth 100000 in
set_option maxHeartbeats 2000000 in
theorem step_go_some (base : Nat) (f : Nat → Prop) (xd xn xm p0 p1 : Int) (ss : ByteArray) (xf : Nat) (W : World) (bT g m : Nat) (v r kp we : Value) (xs : List ByteArray) (ks : List KE) (h : Tx base f W bT g m v r kp we xs ks) (hn : (Lit.int .i64 xn).wf = true) (hk : (ks.length + 1) * 24 ≤ 140737488355328) (hd : xd = 6) (q : Nat) (hw : whichF xn ks.length = (q : Int)) (hq : q < ks.length) :
    Calls Try.prog 18 #[.pointer (some ⟨bT, 0, none⟩), .agg #[.int .i64 xd, .string ss, .float .f64 xf, .int .i64 p0, .int .i64 p1, .int .i64 xn, .int .i64 xm]] W fun e W' => e = .returned (.bool true) ∧ StepQ base f W bT g m ks.length W' := by
  obtain ⟨Ar, cr, rfl⟩ := own_slice h.rr
  obtain ⟨Ak, ck, rfl⟩ := own_slice h.kk
  obtain ⟨Aw, cw, rfl⟩ := own_slice h.ww
  have HH := Lib.hid h
  clear h
  have hd1 : (xd == 1) = false := beq_eq_false_iff_ne.2 (by omega)
  have hd2 : (xd == 2) = false := beq_eq_false_iff_ne.2 (by omega)
  have hd3 : (xd == 3) = false := beq_eq_false_iff_ne.2 (by omega)
  have hd4 : (xd == 4) = false := beq_eq_false_iff_ne.2 (by omega)
  have hd5 : (xd == 5) = false := beq_eq_false_iff_ne.2 (by omega)
  have hd6 : (xd == 6) = true := beq_iff_eq.2 hd
  clear hd
  have HW := Lib.hid (fun w => which_calls2 xn ks.length w hn (by omega))
  rw [hw] at HW
  have hkl : (ks.length : Int) ≤ 5864062014805 := by omega
  have hqk : (q : Int) < (ks.length : Int) := by omega
  have HQ := Lib.hid hq
  clear hn hw hk hq
  go_enter Try.func18, Try.ntmps18
  go_wp2_with (first | ((with_reducible refine gate_dst (N := 3) rfl ?_); refine box_event rfl (N := 3) rfl (cs := #[.int .i64 xd, .string ss, .float .f64 xf, .int .i64 p0, .int .i64 p1, .int .i64 xn, .int .i64 xm]) (t := 50) ?hr ?_; (case hr => first | (go_simp; done) | (go_simp; rfl)); intro b3 hg_ w1 hb3 hB1; have HL3 := Lib.hid (show W.heap.size ≤ b3 from by rw [hg_]; exact Nat.le_refl _); clear hg_; have d0 := (blk_cell hb3 0).trans (Eq.refl (some (Value.int .i64 xd))); have d1 := (blk_cell hb3 1).trans (Eq.refl (some (Value.string ss))); have d5 := (blk_cell hb3 5).trans (Eq.refl (some (Value.int .i64 xn))); have d6 := (blk_cell hb3 6).trans (Eq.refl (some (Value.int .i64 xm))); have hT1 := HH.out.below hB1; have HT1 := Lib.hid hT1; have t0 := (blk_cell hT1.blk 0).trans (Eq.refl (some (Value.pointer (some ⟨g, 0, none⟩)))); have t1 := (blk_cell hT1.blk 1).trans (Eq.refl (some (Value.slice Ar xs.length cr))); have t2 := (blk_cell hT1.blk 2).trans (Eq.refl (some (Value.slice Ak ks.length ck))); have t3 := (blk_cell hT1.blk 3).trans (Eq.refl (some (Value.slice Aw ks.length cw))); have HB1 := Lib.hid hB1; have HB3 := Lib.hid hb3; clear hb3 hB1 hT1))
  go_quiet ((first | (go_at_call 38; exact Calls.quiet_of_same (HW.out _))))
  go_wp2_with fail
  refine any_drewC (w1 := w1) ?_ _
  rintro w2 ⟨n2, hw2⟩
  have hT2 : Tx base f w2 bT g m v (.slice Ar xs.length cr) (.slice Ak ks.length ck) (.slice Aw ks.length cw) xs ks := by rw [hw2]; exact HT1.out.below (pw_below_drewN (Below.refl _ _) _)
  have HB2 := Lib.hid (show Below W.heap.size W w2 from by rw [hw2]; exact pw_below_drewN HB1.out _)
  have hb32 : w2.heap[b3]? = some (.cells #[.int .i64 xd, .string ss, .float .f64 xf, .int .i64 p0, .int .i64 p1, .int .i64 xn, .int .i64 xm] 50 (0, 0)) := by rw [hw2]; exact HB3.out
  have d1_ := (blk_cell hb32 1).trans (Eq.refl (some (Value.string ss)))
  have d5_ := (blk_cell hb32 5).trans (Eq.refl (some (Value.int .i64 xn)))
  have d6_ := (blk_cell hb32 6).trans (Eq.refl (some (Value.int .i64 xm)))
  have t0_ := (blk_cell hT2.blk 0).trans (Eq.refl (some (Value.pointer (some ⟨g, 0, none⟩))))
  have t1_ := (blk_cell hT2.blk 1).trans (Eq.refl (some (Value.slice Ar xs.length cr)))
  have t2_ := (blk_cell hT2.blk 2).trans (Eq.refl (some (Value.slice Ak ks.length ck)))
  have t3_ := (blk_cell hT2.blk 3).trans (Eq.refl (some (Value.slice Aw ks.length cw)))
  have HT2 := Lib.hid hT2
  clear hw2 hT2 hb32 d0 d1 d5 d6 t0 t1 t2 t3
  obtain ⟨E, hE⟩ : ∃ E, ks[q]? = some E := ⟨_, List.getElem?_eq_getElem HQ.out⟩
  have EE := HT2.out.ent E (List.mem_of_getElem? hE)
  obtain ⟨bk, rfl, ck1⟩ := row_at HT2.out.kk rfl q E hE
  obtain ⟨bw, rfl, cw1⟩ := row_at HT2.out.ww rfl q E hE
  obtain ⟨Eb, EA, Eu, Ez⟩ := E
  obtain ⟨Au, cu, hu, _⟩ := EE.ru
  dsimp only at hu
  subst hu
  have ck2 : w2.cell? ⟨bk, q, none⟩ = some (.func (.func 42) #[] #[.pointer (some ⟨Eb, 0, none⟩)]) := ck1
  have cw2 : w2.cell? ⟨bw, q, none⟩ = some (.slice Au Ez.length cu) := cw1
  have HC := Lib.hid (fun (f1 f2 : Nat → Prop) (W : World) (h1 : W.heap[Eb]? = some (.cells #[.slice EA Ez.length Ez.length] 22 (0, 0))) (h2 : Rds f1 W (.slice EA Ez.length Ez.length) Ez) (h3 : Rds f2 W (.slice Au Ez.length cu) Ez) => over_calls Ez Eb EA Au cu xm f1 f2 W h1 h2 h3)
  have HE := Lib.hid EE
  have hq0 : decide ((q : Int) < 0) = false := decide_eq_false (by omega)
  clear ck1 cw1 EE hE
  go_still_tail 19, (by kernel_rfl)
  change wpList _ _ _ _ _ w2.drew
  go_wp2_with (first | (go_at_call 39; go_must (refine (HC.out _ _ _ (by exact HE.out.box) (by exact HE.out.rv) (by exact HE.out.ru)).mono ?_); rintro e w4 ⟨rfl, hb4⟩; have HB4 := Lib.hid hb4; clear hb4))
  go_ret
  exact ⟨rfl, .same HH.out ((below_drew HB2.out).trans (HB4.out.mono HB2.out.size))⟩

end Go.Proofs.Ytaeijlkogenblaa.Nt
