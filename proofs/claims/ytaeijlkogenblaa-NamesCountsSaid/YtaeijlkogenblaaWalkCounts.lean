/- NamesCounts: the walk that its row asks for. Conditions: none. -/
import Derived.Test.YtaeijlkogenblaaDed
import Derived.Test.YtaeijlkogenblaaWOpen
namespace Go.Proofs.Ytaeijlkogenblaa.F
open Go.RowKit Go.Proofs.YtaeijlkogenblaaW.Raw Go.Proofs.YtaeijlkogenblaaW.PrintWords Go.Proofs.Ytaeijlkogenblaa.IxS
set_option linter.unusedVariables false
theorem idx_move {w w' : World} {base g m : Nat} {v : Value} {xs : List ByteArray} (h : Idx w base g m v xs) (hm : ∀ i, i < w.heap.size → (i = g ∨ i = m ∨ some i = v.ownBlock) → w'.heap[i]? = w.heap[i]?) : Idx w' base g m v xs :=
  ⟨(hm g (Array.getElem?_eq_some_iff.1 h.blk).1 (.inl rfl)).trans h.blk, h.raw.move (hm m h.raw.lt (.inr (.inl rfl))), own_heap h.row (fun k hk => hm k (own_lt h.row k hk) (.inr (.inr hk.symm))), h.hg, h.hm⟩
theorem info3 : (Try.prog.info? 3).map (fun i => (i.zero, i.size, i.bytes)) = some (some (.int .i64 0), 1, 8) := by kernel_rfl
theorem apart {w : World} {base g m b n : Nat} {v u : Value} {xs : List ByteArray} {ys : List Value} (hI : Idx w base g m v xs) (hO : w.ownsRow b 3 1 u n ys) : ∀ i, (i = g ∨ i = m ∨ some i = v.ownBlock) → some i ≠ u.ownBlock := by
  rintro i (rfl | rfl | h)
  · exact own_ne hO hI.blk (by decide)
  · exact raw_ne hI.raw hO
  · intro h2
    rcases own_type_ne hO hI.row (by decide) with h3 | h3
    · rw [h3] at h2; cases h2
    · exact h3 (h2.symm.trans h)
theorem idx_grown {w w' : World} {base g m b n : Nat} {v u : Value} {xs : List ByteArray} {ys : List Value} (hI : Idx w base g m v xs) (hO : w.ownsRow b 3 1 u n ys) (hg : w.grownBy w' u.ownBlock) : Idx w' base g m v xs :=
  idx_move hI fun i hi h => hg.block i hi (apart hI hO i h)
theorem of_one (L : List ByteArray) (k : Nat) (hlt : k < L.length) (hL : L.length ≤ 1000) (y : ByteArray) (hy : y = L[k]) (base g m : Nat) (v : Value) (w : World) (h : Idx w base g m v (ded (L.take k))) :
    Calls Try.prog 9 #[.pointer (some ⟨g, 0, none⟩), .string y] w fun e w' => e = .returned (.int .i64 ((pos (ded L) y : Int) + 1)) ∧ ∃ v', Idx w' base g m v' (ded (L.take (k + 1))) ∧ Below base w w' ∧ ∀ b u n ys, w.ownsRow b 3 1 u n ys → w'.ownsRow b 3 1 u n ys := by
  subst hy
  have hll := ded_len (L.take k)
  have htk : (L.take k).length ≤ k := List.length_take_le _ _
  by_cases hin : L[k] ∈ ded (L.take k)
  · obtain ⟨e1, e2, e3⟩ := one_old L k hlt hin
    refine (of_found L[k] _ _ _ g m v w h e2 e3).mono ?_
    rintro e w' ⟨rfl, rfl⟩
    exact ⟨rfl, v, by rw [e1]; exact h, Below.refl _ _, fun _ _ _ _ h => h⟩
  · obtain ⟨e1, e2, e3⟩ := one_new L k hlt hin
    refine (of_new L[k] _ _ g m v w h e2 (by omega)).mono ?_
    rintro e w' ⟨rfl, v', h1, h2, h3, h4⟩
    exact ⟨by rw [e3], v', by rw [e1]; exact h1, h2, fun b u n ys ho => own_heap ho (fun j hj => h3.2 j (own_lt ho j hj) (fun hs => apart h ho j hs hj.symm))⟩
theorem one_most (L : List ByteArray) (k : Nat) (hlt : k < L.length) : ((pos (ded L) L[k] : Int) + 1 == ((ded (L.take k)).length : Int) + 1) = false ∧ (ded (L.take (k + 1))).length = (ded (L.take k)).length ∧ pos (ded L) L[k] < (ded (L.take k)).length ∨
    ((pos (ded L) L[k] : Int) + 1 == ((ded (L.take k)).length : Int) + 1) = true ∧ (ded (L.take (k + 1))).length = (ded (L.take k)).length + 1 ∧ pos (ded L) L[k] = (ded (L.take k)).length := by
  by_cases hin : L[k] ∈ ded (L.take k)
  · obtain ⟨e1, e2, e3⟩ := one_old L k hlt hin
    exact .inl ⟨by rw [beq_eq_false_iff_ne]; omega, by rw [e1], e3⟩
  · obtain ⟨e1, e2, e3⟩ := one_new L k hlt hin
    exact .inr ⟨by rw [beq_iff_eq]; omega, by rw [e1]; simp, e3⟩
theorem len_q (L : List ByteArray) (k : Nat) (q : Int) (base g m : Nat) (v : Value) (w : World) (hq : q = ((ded (L.take (k + 1))).length : Int)) (h : Idx w base g m v (ded (L.take (k + 1)))) :
    Calls Try.prog 10 #[.pointer (some ⟨g, 0, none⟩)] w fun e w' => e = .returned (.int .i64 q) ∧ w' = w := by
  rw [hq]
  exact len_calls _ base g m v w h
theorem int_cell {w : World} {base n c : Nat} {A : Option Addr} {xs : List Int} (h : w.ownsRow base 3 1 (.slice A n c) n (encs (Value.int .i64) xs)) (i : Nat) (hi : i < n) : ∃ b, A = some ⟨b, 0, none⟩ ∧ w.cell? ⟨b, i, none⟩ = some (.int .i64 (rdOf 0 xs i)) := by
  rcases h.2 with ⟨he, h1⟩ | ⟨g', cap', cur, he, hb, hh, _⟩
  · injection he with _ h2
    omega
  · injection he with h1 h2 h3
    subst h1
    refine ⟨g', rfl, ?_⟩
    have := (own_at_of (d := (0 : Int)) h (i : Int) (by omega) (by omega)).1
    simpa using this
def thr (L : List ByteArray) (x : ByteArray) (k : Nat) : Bool := (L.take k).any fun b => b.toList == x.toList
theorem thr_succ (L : List ByteArray) (x : ByteArray) (k : Nat) (h : k < L.length) : thr L x (k + 1) = (thr L x k || (L[k].toList == x.toList)) := by
  unfold thr
  rw [List.take_succ_eq_append_getElem h, List.any_append]
  simp
theorem thr_all (L : List ByteArray) (x : ByteArray) : thr L x L.length = true ↔ x ∈ ded L := by
  rw [ded_mem]
  unfold thr
  rw [List.take_length, List.any_eq_true]
  constructor
  · rintro ⟨b, hb, he⟩
    rw [← beq_toListBytes, MapKept.bytes_beq] at he
    rw [← he]; exact hb
  · intro h
    exact ⟨x, h, by rw [← beq_toListBytes, MapKept.bytes_beq]⟩
theorem idx_drew {w : World} {base g m : Nat} {v : Value} {xs : List ByteArray} (h : Idx w base g m v xs) (j : Nat) : Idx (w.drewN j) base g m v xs := idx_move h (fun _ _ _ => rfl)
theorem find_y (L : List ByteArray) (y : ByteArray) (hy : y ∈ L) (p : Nat) (hp : p = pos (ded L) y) (base g m : Nat) (v : Value) (w : World) (h : Idx w base g m v (ded L)) :
    Calls Try.prog 11 #[.pointer (some ⟨g, 0, none⟩), .string y] w fun e w' => e = .returned (.tuple #[.int .i64 ((p : Int) + 1), .bool true]) ∧ w' = w := by
  subst hp
  obtain ⟨h1, h2, _⟩ := find_of (ded L) y ((ded_mem L y).2 hy)
  exact find_found y (ded L) _ base g m v w h h1 h2
theorem at_y (L : List ByteArray) (y : ByteArray) (hy : y ∈ L) (p : Nat) (hp : p = pos (ded L) y) (base g m : Nat) (v : Value) (w : World) (h : Idx w base g m v (ded L)) :
    Calls Try.prog 12 #[.pointer (some ⟨g, 0, none⟩), .int .i64 ((p : Int) + 1)] w fun e w' => e = .returned (.tuple #[.string y, .bool true]) ∧ w' = w := by
  subst hp
  obtain ⟨h1, h2, h3⟩ := find_of (ded L) y ((ded_mem L y).2 hy)
  refine (at_found _ (ded L) base g m v w h (by omega) (by omega)).mono ?_
  rintro e w' ⟨rfl, h4⟩
  refine ⟨?_, h4⟩
  have : rdOf ByteArray.empty (ded L) ((pos (ded L) y : Int) + 1 - 1) = y := by
    unfold rdOf
    rw [show ((pos (ded L) y : Int) + 1 - 1).toNat = pos (ded L) y from by omega, List.getD_eq_getElem?_getD, h3]
    rfl
  rw [this]
theorem nums_at (L : List ByteArray) (j : Nat) (hj : j < L.length) : rdOf (0 : Int) (nums_ L L.length) j = (pos (ded L) L[j] : Int) + 1 := by
  rw [nums_get L L.length j (Nat.le_refl _) hj]
  simp [List.getD_eq_getElem?_getD, hj]
theorem same_test (L : List ByteArray) (x y : ByteArray) (hx : x ∈ L) (hy : y ∈ L) (p q : Nat) (hp : p = pos (ded L) x) (hq : q = pos (ded L) y) : ((x.toList == y.toList) != (((p : Nat) : Int) + 1 == (q : Int) + 1)) = false := by
  subst hp hq
  have h := pos_inj (ded L) x y ((ded_mem L x).2 hx) ((ded_mem L y).2 hy)
  rw [← beq_toListBytes]
  by_cases e : x = y
  · rw [(MapKept.bytes_beq x y).2 e, beq_iff_eq.2 (by rw [h.2 e])]
    rfl
  · have h1 : (x == y) = false := by cases hb : (x == y) with
      | false => rfl
      | true => exact absurd ((MapKept.bytes_beq x y).1 hb) e
    have h2 : ((pos (ded L) x : Int) + 1 == (pos (ded L) y : Int) + 1) = false := by
      rw [beq_eq_false_iff_ne]
      intro h3
      exact e (h.1 (by omega))
    rw [h1, h2]
    rfl
def cut1000 (x : Int) : Int := if 1000 < x then 1000 else x
theorem min_cut (P : Program) (w : World) (ts : Array TypeId) (t : TypeId) (k k' : IntKind) (x : Int) : (Builtin.min_ ts t #[.int k x, .int k' 1000]).run P w = .ok (.int k (cut1000 x)) w := by
  rw [run_min_int2]; rfl
attribute [local go_sem high] min_cut
set_option maxRecDepth 100000 in
theorem counts_walk (x0 : List ByteArray) (A : Option Addr) (c : Nat) (x1 : ByteArray) (w : World) (hc : x0.length ≤ c) (hr : Kd.string.C w A x0.length x0) (hm : x0.length ≤ 9223372036854775807) :
    Calls Try.prog 3 #[.slice A x0.length c, .string x1] w fun e w' => e = .returned (.bool true) ∧ Below w.heap.size w w' := by
  obtain ⟨L, hL⟩ : ∃ L, L = x0.take 1000 := ⟨_, rfl⟩
  have hLl : L.length = min 1000 x0.length := by rw [hL]; simp
  have hsl : ∀ W : World, (Instr.slice 22 (.slice A x0.length c) none (some (.int .i64 (cut1000 (x0.length : Int)))) none).run Try.prog W = .ok (.slice A L.length c) W := by
    intro W
    obtain ⟨i0, hi, _, hz1, _⟩ := info_parts IxS.info9
    have h := (print_take_of (P := Try.prog) Value.string ByteArray.empty 22 9 .i64 Try.underlying22 hi hz1 A c x0 (cut1000 (x0.length : Int)) (by unfold cut1000; split <;> omega) (by unfold cut1000; split <;> omega) hc).1 W
    rw [h]
    have : (cut1000 (x0.length : Int)).toNat = min 1000 x0.length := by unfold cut1000; split <;> omega
    rw [this, hL]
    simp
  have hRL : Kd.string.C w A L.length L := by
    have h := Kd.C_take hr (m := min 1000 x0.length) (by omega)
    have e : x0.take (min 1000 x0.length) = L := by rw [hL]; simp
    rwa [e] at h
  have hl2 : L.length ≤ 1000 := by omega
  have hlc : L.length ≤ c := by omega
  clear hL hLl hr
  have HR := Lib.hid hRL
  clear hRL
  go_enter Try.func3, Try.ntmps3
  go_wp2_with (go_at_call 8; refine (IxS.new_calls _).mono ?_; rintro e w1 ⟨g, m, rfl, hI, hb⟩; have HI := Lib.hid hI; have HB := Lib.hid hb; clear hI hb)
  go_loopw [6, 7, 8] (fun v6 v7 i wr => ∃ k v, k ≤ L.length ∧ i = .int .i64 (k : Nat) ∧ v7 = .int .i64 ((ded (L.take k)).length : Int) ∧ wr.ownsRow w.heap.size 3 1 v6 (nums_ L k).length (encs (Value.int .i64) (nums_ L k)) ∧ Idx wr w.heap.size g m v (ded (L.take k)) ∧ Below w.heap.size w wr) (fun _ _ i _ => L.length - (intOf i).toNat)
  case atStart => exact ⟨0, _, Nat.zero_le _, rfl, rfl, own_nil _ _ _ _, HI.out, HB.out⟩
  case round =>
    obtain ⟨k, v, hk, rfl, rfl, hO, hI, hb⟩ := hrel
    by_cases hlt : k < L.length
    · obtain ⟨ad, rfl, hcell⟩ := Kd.at_string HR.out (k : Int) (by omega) (by omega)
      have hcl : wr.cell? (ad.add k) = some (.string L[k]) := by
        have := pw_cell_below hb hcell
        simpa [rdOf, List.getD_eq_getElem?_getD, hlt] using this
      have hll := ded_len (L.take k)
      have htk : (L.take k).length ≤ k := List.length_take_le _ _
      obtain ⟨y, hy⟩ : ∃ y, y = L[k] := ⟨_, rfl⟩
      have hm1 := one_most L k hlt
      rw [← hy] at hcl hm1
      have HC := Lib.hid (of_one L k hlt hl2 y hy _ g m v wr hI)
      obtain ⟨p, hp⟩ : ∃ p, p = pos (ded L) y := ⟨_, rfl⟩
      obtain ⟨n, hn⟩ : ∃ n, n = (ded (L.take k)).length := ⟨_, rfl⟩
      obtain ⟨q, hq⟩ : ∃ q, q = (ded (L.take (k + 1))).length := ⟨_, rfl⟩
      rw [← hp] at HC hm1
      rw [← hn] at hll
      rw [← hn, ← hq] at hm1
      rw [← hn]
      have HP := Lib.hid hp
      have HQ := Lib.hid hq
      have HY := Lib.hid hy
      have HO := Lib.hid hO
      have HB1 := Lib.hid hb
      have bd1 : (n : Int) ≤ 1000 := by omega
      have hkb : (k : Int) < (L.length : Int) := by omega
      clear hp hn hq hy hO hI hb hll htk HI HB hk
      rcases hm1 with ⟨t1, hq, hpn⟩ | ⟨t1, hq, hpn⟩
      all_goals
        have t2 : decide ((p : Int) + 1 < 1) = false := decide_eq_false (by omega)
        have bd2 : (p : Int) < 1001 := by omega
        have bd3 : (q : Int) < 1002 := by omega
      · have t3 : decide ((n : Int) < (p : Int) + 1) = false := decide_eq_false (by omega)
        obtain rfl : q = n := hq
        go_wp2_with fail
        refine HC.out.mono ?_
        rintro e w2 ⟨rfl, v2, hI2, hb2, hrow⟩
        have HO2 := Lib.hid (hrow _ _ _ _ HO.out)
        have HI2 := Lib.hid hI2
        have HB2 := Lib.hid (HB1.out.trans hb2)
        clear hrow hI2 hb2
        go_wp2_with (at_builtin; go_must (refine print_append_of (Value.int .i64) w.heap.size rfl _ _ 25 3 (.int .i64 0) 8 rfl Try.underlying25 info3 rfl (by decide) u6 (nums_ L k) ((p : Int) + 1) rfl rfl rfl HO2.out HB2.out HB2.out.size (by have := nums_len L k (by omega); omega) ?_); intro v1 w3 hown hb3 hg3 hat; have HOW := Lib.hid hown; have HB3 := Lib.hid hb3; have HI3 := Lib.hid (idx_grown HI2.out HO2.out hg3); clear hown hb3 hg3 hat)
        refine (len_q L k (q : Int) _ g m v2 w3 (by rw [HQ.out]) HI3.out).mono ?_
        rintro e w4 ⟨rfl, rfl⟩
        go_wp2_with fail
        go_roundw
        case rel => exact ⟨k + 1, v2, hlt, by go_num, by rw [HQ.out], by rw [nums_succ L k hlt, ← HY.out, ← HP.out]; exact HOW.out, HI3.out, HB3.out⟩
        case measure => simp [intOf]; omega
      · have t3 : decide ((q : Int) < (p : Int) + 1) = false := decide_eq_false (by omega)
        have t4 : decide ((p : Int) + 1 < (p : Int) + 1) = false := decide_eq_false (by omega)
        obtain rfl : p = n := hpn
        obtain rfl : q = p + 1 := hq
        go_wp2_with fail
        refine HC.out.mono ?_
        rintro e w2 ⟨rfl, v2, hI2, hb2, hrow⟩
        have HO2 := Lib.hid (hrow _ _ _ _ HO.out)
        have HI2 := Lib.hid hI2
        have HB2 := Lib.hid (HB1.out.trans hb2)
        clear hrow hI2 hb2
        go_wp2_with (at_builtin; go_must (refine print_append_of (Value.int .i64) w.heap.size rfl _ _ 25 3 (.int .i64 0) 8 rfl Try.underlying25 info3 rfl (by decide) u6 (nums_ L k) ((p : Int) + 1) rfl rfl rfl HO2.out HB2.out HB2.out.size (by have := nums_len L k (by omega); omega) ?_); intro v1 w3 hown hb3 hg3 hat; have HOW := Lib.hid hown; have HB3 := Lib.hid hb3; have HI3 := Lib.hid (idx_grown HI2.out HO2.out hg3); clear hown hb3 hg3 hat)
        refine (len_q L k ((p : Int) + 1) _ g m v2 w3 (by rw [← HQ.out]; rfl) HI3.out).mono ?_
        rintro e w4 ⟨rfl, rfl⟩
        go_wp2_with fail
        go_roundw
        case rel => exact ⟨k + 1, v2, hlt, by go_num, by rw [← HQ.out]; rfl, by rw [nums_succ L k hlt, ← HY.out, ← HP.out]; exact HOW.out, HI3.out, HB3.out⟩
        case measure => simp [intOf]; omega
    · obtain rfl : k = L.length := by omega
      rw [List.take_length] at hI
      have hnl := nums_len L L.length (Nat.le_refl _)
      obtain ⟨A6, c6, rfl⟩ := own_slice hO
      rw [hnl] at hO ⊢
      have h6c := own_le hO
      have HO := Lib.hid hO
      have HI1 := Lib.hid hI
      have HB1 := Lib.hid hb
      have hml := ded_len L
      rw [List.take_length]
      clear hO hI hb HI HB hk hlt hnl
      go_wp2_with fail
      obtain ⟨wo, hwo⟩ : ∃ wo : World, wo = wr := ⟨_, rfl⟩
      rw [← hwo] at HO HI1 HB1 ⊢
      clear hwo
      have hbd : (L.length : Int) ≤ 1000 := by omega
      go_loopw [10, 11] (fun th i ws => ∃ k j, k ≤ L.length ∧ i = .int .i64 (k : Nat) ∧ th = .bool (thr L x1 k) ∧ ws = wo.drewN j) (fun _ i _ => L.length - (intOf i).toNat)
      case atStart => exact ⟨0, 0, Nat.zero_le _, rfl, rfl, rfl⟩
      case round =>
        obtain ⟨k, j, hk, rfl, rfl, rfl⟩ := hrel
        by_cases hlt : k < L.length
        · obtain ⟨ad, rfl, hcell⟩ := Kd.at_string HR.out (k : Int) (by omega) (by omega)
          obtain ⟨b6, rfl, hc6⟩ := int_cell HO.out k hlt
          rw [nums_at L k hlt] at hc6
          obtain ⟨y, hy⟩ : ∃ y, y = L[k] := ⟨_, rfl⟩
          have hcl : wo.cell? (ad.add k) = some (.string y) := by
            have := pw_cell_below HB1.out hcell
            rw [hy]
            simpa [rdOf, List.getD_eq_getElem?_getD, hlt] using this
          have hts := thr_succ L x1 k hlt
          rw [← hy] at hts hc6
          obtain ⟨p, hp⟩ : ∃ p, p = pos (ded L) y := ⟨_, rfl⟩
          rw [← hp] at hc6
          have hym : y ∈ L := by rw [hy]; exact List.getElem_mem _
          have HF := Lib.hid (fun W h => find_y L y hym p hp w.heap.size g m v W h)
          have HA := Lib.hid (fun W h => at_y L y hym p hp w.heap.size g m v W h)
          have HY := Lib.hid hy
          have HP := Lib.hid hp
          have HYM := Lib.hid hym
          have HT := Lib.hid hts
          have hpb : (p : Int) < 1001 := by
            have := (find_of (ded L) y ((ded_mem L y).2 hym)).2.1
            rw [← hp] at this
            omega
          clear hcell hp hy hym hts hk
          cases hth : thr L x1 k
          all_goals
            have HTH := Lib.hid hth
            clear hth
            go_wp2_with fail
            refine (HF.out _ (idx_drew HI1.out j)).mono ?_
            rintro e w2 ⟨rfl, rfl⟩
            go_wp2_with fail
            refine (HA.out _ (idx_drew HI1.out j)).mono ?_
            rintro e w2 ⟨rfl, rfl⟩
            go_wp2_with fail
            go_loopw [16] (fun i2 ws => ∃ k2 j2, k2 ≤ k ∧ i2 = .int .i64 (k2 : Nat) ∧ ws = wo.drewN j2) (fun i2 _ => k - (intOf i2).toNat)
            case atStart => exact ⟨0, j, Nat.zero_le _, rfl, rfl⟩
            case round =>
              obtain ⟨k2, j2, hk2, rfl, rfl⟩ := hrel
              by_cases hlt2 : k2 < k
              · obtain ⟨ad', had, hcell2⟩ := Kd.at_string HR.out (k2 : Int) (by omega) (by omega)
                injection had with had
                subst had
                obtain ⟨b', hb', hc62⟩ := int_cell HO.out k2 (by omega)
                injection hb' with hb'
                injection hb' with hb'
                subst hb'
                rw [nums_at L k2 (by omega)] at hc62
                obtain ⟨y2, hy2⟩ : ∃ y2, y2 = L[k2] := ⟨_, rfl⟩
                have hcl2 : wo.cell? (ad.add k2) = some (.string y2) := by
                  have := pw_cell_below HB1.out hcell2
                  rw [hy2]
                  simpa [rdOf, List.getD_eq_getElem?_getD, show k2 < L.length by omega] using this
                rw [← hy2] at hc62
                have hym2 : y2 ∈ L := by rw [hy2]; exact List.getElem_mem _
                obtain ⟨p2, hp2⟩ : ∃ p2, p2 = pos (ded L) y2 := ⟨_, rfl⟩
                rw [← hp2] at hc62
                have hst := same_test L y2 y hym2 HYM.out p2 p hp2 HP.out
                have hk2b : (k2 : Int) < (k : Int) := by omega
                have hp2b : (p2 : Int) < 1001 := by
                  have := (find_of (ded L) y2 ((ded_mem L y2).2 hym2)).2.1
                  rw [← hp2] at this
                  omega
                have hst2 : (!((y2.toList == y.toList) == ((p2 : Int) + 1 == (p : Int) + 1))) = false := hst
                clear hcell2 hp2 hy2 hym2 hk2 hst
                go_wp2_with fail
                go_quiet (fail)
                go_wp2_with fail
                go_roundw
                case rel => exact ⟨k2 + 1, _, hlt2, by go_num, rfl⟩
                case measure => simp [intOf]; omega
              · obtain rfl : k2 = k := by omega
                go_wp2_with fail
                go_roundw
                case rel => exact ⟨k2 + 1, j2, hlt, by go_num, by rw [HT.out, HTH.out]; first | rfl | (cases hh : (y.toList == x1.toList) <;> simp_all), rfl⟩
                case measure => simp [intOf]; omega
        · obtain rfl : k = L.length := by omega
          have hta := thr_all L x1
          clear hk hlt
          have HL0 := Lib.hid (fun W h => at_low 0 (ded L) w.heap.size g m v W h (by omega))
          have HH0 := Lib.hid (fun W h => at_high (((ded L).length : Int) + 1) (ded L) w.heap.size g m v W h (by omega))
          have HLN := Lib.hid (fun W h => len_calls (ded L) w.heap.size g m v W h)
          have HFI : Hid (∀ W, Idx W w.heap.size g m v (ded L) → ∃ n : Int, Calls Try.prog 11 #[.pointer (some ⟨g, 0, none⟩), .string x1] W fun e w' => e = .returned (.tuple #[.int .i64 n, .bool (thr L x1 L.length)]) ∧ w' = W) := by
            refine Lib.hid fun W h => ?_
            by_cases hin : x1 ∈ ded L
            · rw [hta.2 hin]
              obtain ⟨h1, h2, _⟩ := find_of (ded L) x1 hin
              exact ⟨_, find_found x1 (ded L) _ _ g m v W h h1 h2⟩
            · have : thr L x1 L.length = false := by
                cases hh : thr L x1 L.length with
                | false => rfl
                | true => exact absurd (hta.1 hh) hin
              rw [this]
              exact ⟨_, find_none x1 (ded L) _ g m v W h (by rw [List.findIdx?_eq_none_iff]; intro b hb; cases hh : eqk x1 b with | false => rfl | true => exact absurd ((eqk_iff x1 b).1 hh ▸ hb) hin)⟩
          clear hta
          generalize thr L x1 L.length = tb at HFI ⊢
          obtain ⟨nd, hnd⟩ : ∃ nd, nd = (ded L).length := ⟨_, rfl⟩
          rw [← hnd] at HH0 HLN hml ⊢
          clear hnd
          obtain ⟨nf, hF⟩ := HFI.out _ (idx_drew HI1.out j)
          clear HFI
          have HF := Lib.hid hF
          clear hF
          go_wp2_with fail
          refine HF.out.mono ?_
          rintro e w2 ⟨rfl, rfl⟩
          go_wp2_with fail
          refine (HL0.out _ (idx_drew HI1.out j)).mono ?_
          rintro e w2 ⟨rfl, rfl⟩
          go_wp2_with fail
          refine (HH0.out _ (idx_drew HI1.out j)).mono ?_
          rintro e w2 ⟨rfl, rfl⟩
          cases tb
          all_goals
            go_wp2_with fail
            refine (HLN.out _ (idx_drew HI1.out j)).mono ?_
            rintro e w2 ⟨rfl, rfl⟩
            go_wp2_with fail
            go_ret
            refine ⟨rfl, ?_⟩
            exact ⟨HB1.out.os, HB1.out.tape, HB1.out.output, HB1.out.size, HB1.out.block⟩
theorem NamesCounts.walk (x0 : (List ByteArray)) (v0 : Value) (x1 : ByteArray) (v1 : Value) (w : World) (hk0 : Kd.K (Kd.slice 9 Kd.string) w x0 [v0]) (hg0 : (x0.length * 16 ≤ 140737488351232 ∧ x0.length ≤ 9223372036854775807 ∧ ∀ x_ ∈ x0, x_.size ≤ 140737488351232)) (hk1 : Kd.K Kd.string w x1 [v1]) (hg1 : x1.size ≤ 140737488351232) :
    Calls Try.prog 3 #[v0, v1] w fun e w' => e = .returned (.bool true) ∧ Below w.heap.size w w' := by
  obtain ⟨A, c, h0, hc, hr⟩ := hk0
  injection h0 with h0
  subst h0
  have h1 : [v1] = [Value.string x1] := hk1
  injection h1 with h1
  subst h1
  exact counts_walk x0 A c x1 w hc hr hg0.2.1
end Go.Proofs.Ytaeijlkogenblaa.F
