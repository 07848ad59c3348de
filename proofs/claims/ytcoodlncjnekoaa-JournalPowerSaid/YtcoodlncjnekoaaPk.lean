/- JournalPower, the plain law. Conditions: each theorem's own.
JournalPower: the walk. Conditions: none.
JournalPower: the walk that its row asks for. Conditions: none. -/
import Derived.Test.YtcoodlncjnekoaaJc
import Derived.Test.YtcoodlncjnekoaaOpens
namespace Go.Proofs.Ytcoodlncjnekoaa.F
open Go.RowKit Go.Proofs.YtcoodlncjnekoaaW.PrintWords Go.Proofs.JournalPlain Go.Proofs.Ytcoodlncjnekoaa.D
set_option linter.unusedVariables false
theorem inv_ex (es : List S23) (kk : Nat) : ∀ j, j ≤ es.length → ∃ M, Inv es kk j M := by
  intro j
  induction j with
  | zero => intro _; exact ⟨0, Nat.le_refl _, by simp [EE, cat], fun h => absurd h (by omega)⟩
  | succ j ih =>
    intro hj
    obtain ⟨M, h1, h2, h3⟩ := ih (by omega)
    by_cases c : EE es (j + 1) ≤ kk
    · exact ⟨j + 1, Nat.le_refl _, c, fun h => absurd h (by omega)⟩
    · refine ⟨M, by omega, h2, fun h => ?_⟩
      rcases Nat.lt_or_ge M j with h4 | h4
      · exact h3 h4
      · have : M = j := by omega
        subst this
        omega
theorem inv_ge (es : List S23) (kk m M : Nat) (h : Inv es kk es.length M) (hm : m ≤ es.length) (he : EE es m ≤ kk) : m ≤ M := by
  rcases Nat.lt_or_ge M m with c | c
  · have h1 := h.2.2 (by omega)
    have h2 := EE_le (es := es) (show M + 1 ≤ m by omega) hm
    omega
  · exact c
theorem cat_range (es : List S23) : ∀ x ∈ cat es, 0 ≤ x ∧ x < 256 := by
  intro x hx
  unfold cat at hx
  obtain ⟨l, hl, hx2⟩ := List.mem_flatten.1 hx
  obtain ⟨e, _, rfl⟩ := List.mem_map.1 hl
  exact recL_range _ _ x hx2
/-- What is read of a cut text. -/
theorem power_read (es : List S23) (hf : Fit es) (hn : es.length ≤ 1048576) (T : ByteArray) (hT : bytesOf T = cat es) (n : Nat) (hnT : n ≤ T.size) (m : Nat) (hm : m ≤ es.length) (he : EE es m ≤ n) :
    ∃ M, m ≤ M ∧ M ≤ es.length ∧ EE es M ≤ n ∧ (∀ K, 800000 + es.length ≤ K → journal_Read.f K (ex T n) = some (es.take M, ((EE es M : Nat) : Int))) ∧ (∀ K, 800000 + es.length ≤ K → journal_Read.f K (ex (ex T n) (EE es M)) = some (es.take M, ((EE es M : Nat) : Int))) ∧ (ex (ex T n) (EE es M)).size = EE es M := by
  have hl : (cat es).length = T.size := by rw [← hT, bytesOf_length]
  obtain ⟨M, hM⟩ := inv_ex es n es.length (Nat.le_refl _)
  have hge := inv_ge es n m M hM hm he
  have hb := cat_bound es hf es.length (Nat.le_refl _)
  refine ⟨M, hge, hM.1, hM.2.1, ?_, ?_, ?_⟩
  · intro K hK
    have h := reads_cut es hf hn n (by omega) M hM.1 hM.2.1 hM.2.2 (ex T n) (by rw [bytes_ex, hT]) M (Nat.le_refl _) (K - 1 - M) (by have := hM.1; omega)
    have z0 : EE es 0 = 0 := by simp [EE, cat]
    rw [Nat.sub_self, z0, List.take_zero, show K - 1 - M + 1 + M = K by have := hM.1; omega] at h
    exact h
  · intro K hK
    have hEn := hM.2.1
    rw [ex_ex _ _ _ hEn]
    have h := reads_cut es hf hn (EE es M) (by omega) M hM.1 (Nat.le_refl _) (fun h => by rw [EE_succ es M h]; omega) (ex T (EE es M)) (by rw [bytes_ex, hT]) M (Nat.le_refl _) (K - 1 - M) (by have := hM.1; omega)
    have z0 : EE es 0 = 0 := by simp [EE, cat]
    rw [Nat.sub_self, z0, List.take_zero, show K - 1 - M + 1 + M = K by have := hM.1; omega] at h
    exact h
  · have hEn := hM.2.1
    rw [ex_ex _ _ _ hEn, ex_size _ _ (by omega)]
theorem cat_snoc (es : List S23) (e : S23) : cat (es ++ [e]) = cat es ++ recE e := by rw [cat_append]; simp [cat]
theorem EE_snoc (es : List S23) (e : S23) (m : Nat) (hm : m ≤ es.length) : EE (es ++ [e]) m = EE es m := by
  unfold EE
  rw [List.take_append_of_le_length hm]
end Go.Proofs.Ytcoodlncjnekoaa.F
namespace Go.Proofs.Ytcoodlncjnekoaa.F
open Go.RowKit Go.Proofs.YtcoodlncjnekoaaW.PrintWords Go.Proofs.JournalPlain Go.Proofs.Ytcoodlncjnekoaa.D
set_option linter.unusedVariables false
set_option maxHeartbeats 1000000 in
set_option maxRecDepth 100000 in
theorem power_walk (room0 : Int) (A : Option Addr) (c : Nat) (xs : List S23) (sync keep : Int) (w : World) (hc : xs.length ≤ c) (hr : Kd.C k23 w A xs.length xs) (hm : xs.length ≤ 9223372036854775807) :
    Calls Try.prog 13 #[.int .i64 room0, .slice A xs.length c, .int .i64 sync, .int .i64 keep] w fun e w' => e = .returned (.bool true) ∧ Below w.heap.size w w' := by
  have hu23 := Try.underlying23
  have HR := Lib.hid hr
  clear hr
  have CA := Lib.hid (fun W => gatehouselaw22_alive.calls 300 true W (alive_f 300 (Nat.le_refl _)))
  obtain ⟨room, hp0, hp1, hp2⟩ := pick_f room0 1048577 (by decide) (by decide)
  have CP := Lib.hid (fun W => pick_same room0 1048577 room W (by decide) (by decide) hp0)
  have CN := Lib.hid (fun W => new_dk room W)
  have hn : (0 ≤ room ∧ room ≤ 1048576) := by omega
  simp only [hn, if_true, and_self] at CN
  have HRM := Lib.hid hn
  have hread : journal_Read.f 800001 (⟨#[]⟩ : ByteArray) = some (([] : List S23), (((⟨#[]⟩ : ByteArray).size : Nat) : Int)) := by
    refine Read_end 800000 (⟨#[]⟩ : ByteArray) (by decide) [] 0 ?_ (by decide) (by decide)
    intro v t hh
    obtain ⟨h1, _⟩ := (has_iff _ v t).1 hh
    rw [size_extract] at h1
    have : (⟨#[]⟩ : ByteArray).size = 0 := rfl
    omega
  have HRE := Lib.hid hread
  clear hp0 hp1 hp2 hn hread
  go_enter Try.func13, Try.ntmps13
  go_wp2_with fail
  refine (CA.out _).mono ?_
  rintro e w1 ⟨rfl, hb⟩
  have HB1 := Lib.hid hb
  clear hb
  go_wp2_with fail
  refine (CP.out _).mono ?_
  rintro e w2 ⟨rfl, rfl⟩
  go_wp2_with fail
  refine (CN.out _).mono ?_
  rintro e w3 ⟨g, rfl, hd, hb, hg⟩
  have HD3 := Lib.hid hd
  have HB3 := Lib.hid hb
  clear hd hb hg
  go_wp2_with fail
  refine (jopen HD3.out HB3.out.size [] 800001 HRE.out (by decide)).mono ?_
  rintro e w4 ⟨j, u, ver, txt, rfl, hd, hj, _, hr, hl, hjj⟩
  obtain ⟨Ag, cg, rfl⟩ := Kd.R_slice hr
  have HD4 := Lib.hid hd
  have HJ4 := Lib.hid hj
  have HJB := Lib.hid hjj
  have HB4 := Lib.hid (HB3.out.trans hl.1)
  clear hd hj hr hl hjj
  go_wp2_with fail
  go_loopw [15, 16, 17] (fun s15 s16 i wr => ∃ (k : Nat) (v : Value) (T : ByteArray) (es : List S23) (m : Nat) (ver : Int) (txt : ByteArray) (any : Bool), k ≤ xs.length ∧ i = .int .i64 (k : Nat) ∧ s16 = .int .i64 (m : Nat) ∧ m ≤ es.length ∧ Fit es ∧ bytesOf T = cat es ∧ (T.size : Int) ≤ room ∧ Kd.R k23 23 wr w2.heap.size (fun _ => True) s15 es ∧ Dk wr w2.heap.size g v room ((EE es m : Nat) : Int) T ∧ Jn wr j g ver txt any ∧ Below w2.heap.size w2 wr) (fun _ _ i _ => xs.length - (intOf i).toNat)
  case atStart => exact ⟨0, _, ⟨#[]⟩, [], 0, ver, txt, _, Nat.zero_le _, rfl, rfl, Nat.le_refl _, (fun e he => by cases he), rfl, HRM.out.1, Kd.R_nil _ _ _ _ _, HD4.out, HJ4.out, HB4.out⟩
  case round =>
    obtain ⟨k, v, T, es, m, ver, txt, any, hk, rfl, rfl, hm2, hfit, hT, hTr, hrow, hd, hj, hb⟩ := hrel
    by_cases hlt : k < xs.length
    · obtain ⟨ad, rfl, e0, e1⟩ := at_T23 HR.out (k : Int) (by omega) (by omega)
      have hW := below_step HB1.out hb
      have hrd : rd_T23 xs (k : Int) = xs[k] := by unfold rd_T23; simp [List.getD_eq_getElem?_getD, hlt]
      rw [hrd] at e0 e1
      simp only [Int.toNat_natCast] at e0 e1
      obtain ⟨⟨x, y⟩, hop⟩ : ∃ o, o = xs[k] := ⟨_, rfl⟩
      rw [← hop] at e0 e1
      replace e0 := (hW.cell (World.block_lt_of_cell? w _ e0)).trans e0
      replace e1 := (hW.cell (World.block_lt_of_cell? w _ e1)).trans e1
      simp only at e0 e1
      have hkb : (k : Int) < (xs.length : Int) := by omega
      have HKL := Lib.hid (show k + 1 ≤ xs.length from hlt)
      obtain ⟨fx, hfx⟩ : ∃ a, a = fitV x := ⟨_, rfl⟩
      obtain ⟨fy, hfy⟩ : ∃ a, a = fitT y := ⟨_, rfl⟩
      have HFF := Lib.hid (show fit_ fx fy by rw [hfx, hfy]; exact fit_fit _ _)
      have CF := Lib.hid (fun W => gatehouselaw22_fit.calls x y fx fy W (by rw [hfx, hfy]; exact fit_f _ _))
      have HRW := Lib.hid hrow
      have HD := Lib.hid hd
      have HJ := Lib.hid hj
      have HB := Lib.hid hb
      have HT := Lib.hid hT
      have HTR := Lib.hid hTr
      have HM := Lib.hid hm2
      have HFT := Lib.hid hfit
      clear hop hrd hW hk hlt hrow hd hj hb hT hTr hm2 hfit hfx hfy
      go_wp2_with fail
      refine (CF.out _).mono ?_
      rintro e w5 ⟨rfl, hb⟩
      have HD5 := Lib.hid (HD.out.below hb)
      have HJ5 := Lib.hid (show Jn w5 j g ver txt any from blk_below HJ.out hb)
      have HB5 := Lib.hid (below_step HB.out hb)
      have HRW5 := Lib.hid (Kd.R_below HRW.out hb)
      clear hb e0 e1
      go_upto_region 12 with fail
      obtain ⟨W, hW⟩ : ∃ W, W = w5.alloc (.cells #[.int .i64 fx, .string fy] 23) := ⟨_, rfl⟩
      obtain ⟨go, hgo⟩ : ∃ go, go = w5.heap.size := ⟨_, rfl⟩
      have hba := below_alloc (Below.refl w5.heap.size w5) (.cells #[.int .i64 fx, .string fy] 23)
      have BKW := Lib.hid (show W.heap[go]? = some (.cells #[.int .i64 fx, .string fy] 23 (0, 0)) by rw [hW, hgo]; show (w5.heap.push _)[w5.heap.size]? = _; simp)
      have HDW := Lib.hid (show Dk W w2.heap.size g v room ((EE es m : Nat) : Int) T by rw [hW]; exact HD5.out.below hba)
      have HJW := Lib.hid (show Jn W j g ver txt any by rw [hW]; exact blk_below HJ5.out hba)
      have HBW := Lib.hid (show Below w2.heap.size w2 W by rw [hW]; exact below_step HB5.out hba)
      have HRWW := Lib.hid (show Kd.R k23 23 W w2.heap.size (fun _ => True) u15 es by rw [hW]; exact Kd.R_below HRW5.out hba)
      rw [← hW, ← hgo]
      clear hW hgo hba HD HJ HB HRW HD5 HJ5 HB5 HRW5
      have HA := Lib.hid (jappend HDW.out HJW.out (Nat.le_trans HB3.out.size HJB.out) fx fy HFF.out HRM.out.2 HTR.out HBW.out.size)
      obtain ⟨SS, hSS⟩ : ∃ SS, SS = frameB fx fy := ⟨_, rfl⟩
      rw [← hSS] at HA
      have HSS := Lib.hid hSS
      clear hSS
      obtain ⟨a0, a1⟩ := cells23 BKW.out (Below.refl _ _)
      go_wp2_with fail
      refine HA.out.mono ?_
      rintro e w6 ⟨v6, he, hb6, hk6⟩
      have hjne : go ≠ j := by
        rintro rfl
        have h1 := BKW.out
        have h2 : W.heap[go]? = some (.cells _ 116 (0, 0)) := HJW.out
        rw [h1] at h2
        injection h2 with h2
        injection h2 with _ h2 _
        exact absurd h2 (by decide)
      have BK6 := Lib.hid (show w6.heap[go]? = some (.cells #[.int .i64 fx, .string fy] 23 (0, 0)) from (hk6 go (Array.getElem?_eq_some_iff.1 BKW.out).1 (not_foot HDW.out BKW.out (by decide) (by decide)) hjne).trans BKW.out)
      have HRW6 := Lib.hid (row_kept HDW.out HJW.out HRWW.out hk6)
      have HB6 := Lib.hid (HBW.out.trans hb6)
      obtain ⟨cd, rfl, hcd⟩ : ∃ cd : Int, e = .returned (.int .i64 cd) ∧ ((cd = 0 ∧ (SS.size : Int) ≤ room - T.size ∧ Dk w6 w2.heap.size g v6 room ((EE es m : Nat) : Int) (T ++ SS) ∧ Jn w6 j g fx fy true) ∨ (cd = 210 ∧ Dk w6 w2.heap.size g v6 room ((EE es m : Nat) : Int) T ∧ Jn w6 j g ver txt any)) := by
        by_cases cf : (SS.size : Int) ≤ room - T.size
        · simp only [cf, if_true] at he
          exact ⟨0, he.1, .inl ⟨rfl, cf, he.2.1, he.2.2⟩⟩
        · simp only [cf, if_false] at he
          exact ⟨210, he.1, .inr ⟨rfl, he.2.1, he.2.2⟩⟩
      have HCD := Lib.hid hcd
      clear he hcd hb6 hk6 hjne a0 a1 HA
      go_upto_if 77 with fail
      go_cut [15] (fun s15 wr => ∃ (v : Value) (T : ByteArray) (es : List S23) (ver : Int) (txt : ByteArray) (any : Bool) (E : Int), m ≤ es.length ∧ E = ((EE es m : Nat) : Int) ∧ Fit es ∧ bytesOf T = cat es ∧ (T.size : Int) ≤ room ∧ Kd.R k23 23 wr w2.heap.size (fun _ => True) s15 es ∧ Dk wr w2.heap.size g v room E T ∧ Jn wr j g ver txt any ∧ Below w2.heap.size w2 wr)
      case first =>
        rcases HCD.out with ⟨rfl, cf, hd6, hj6⟩ | ⟨rfl, hd6, hj6⟩
        · have HD6 := Lib.hid hd6
          have HJ6 := Lib.hid hj6
          have HSZ := Lib.hid (show ((T ++ SS).size : Int) ≤ room by have := cf; rw [ByteArray.size_append]; omega)
          have HLN := Lib.hid (show es.length ≤ 1048576 by
            have h1 := HTR.out
            have h2 := HRM.out.2
            have h3 : es.length * 17 ≤ (cat es).length := by
              have : ∀ l : List S23, l.length * 17 ≤ (cat l).length := by
                intro l
                induction l with
                | nil => simp [cat]
                | cons a l ih => have e : cat (a :: l) = recE a ++ cat l := by simp [cat]
                                 rw [e, List.length_append, recE_length, List.length_cons]; omega
              exact this es
            rw [← HT.out, bytesOf_length] at h3
            omega)
          clear hd6 hj6 cf
          obtain ⟨a0, a1⟩ := cells23 BK6.out (Below.refl _ _)
          go_wp2_with ((with_reducible refine gate_builtin (b := .append) (xs := #[.tmp 78, .tmp 80]) rfl ?_); at_builtin; refine Kd.R_append k23 (w0 := w2) w2.heap.size rfl (.tmp 78) (.tmp 80) 28 23 (.agg #[(.int .i64 0), (.string ⟨#[]⟩)]) 24 rfl Try.underlying28 info23 rfl (by decide) (by omega) u15 es (⟨fx, fy⟩ : S23) [.int .i64 fx, .string fy] (fun _ => True) (fun _ => False) rfl rfl ?aP (fun _ hk => hk.elim) ?aF ?aO ?aB ?aS ?aL ?_; (case aP => exact k23_mkM _ _ _ (⟨fx, fy⟩ : S23)); (case aF => exact (fun _ _ => trivial)); (case aO => exact HRW6.out); (case aB => exact HB6.out); (case aS => exact HB6.out.size); (case aL => have := HLN.out; omega); intro v7 w7 ho hb hg hat; have HRW7 := Lib.hid ho; have HB7 := Lib.hid hb; have HG7 := Lib.hid hg; clear ho hb hg hat)
          go_meet
          have hbt : bytesOf (T ++ SS) = cat (es ++ [⟨fx, fy⟩]) := by rw [bytesOf_append, HT.out, HSS.out, bytesOf_frameB, cat_snoc]; rfl
          have hft : Fit (es ++ [⟨fx, fy⟩]) := by
            intro e he
            rcases List.mem_append.1 he with h | h
            · exact HFT.out e h
            · obtain rfl : e = ⟨fx, fy⟩ := by simpa using h
              exact HFF.out
          have hoth : ∀ (i : Nat) (cs : Array Value) (t : TypeId) (fr : Nat × Nat), w6.heap[i]? = some (.cells cs t fr) → t ≠ 23 → w7.heap[i]? = w6.heap[i]? := by
            intro i cs t fr hi ht
            refine HG7.out.block i (Array.getElem?_eq_some_iff.1 hi).1 (fun e => ?_)
            obtain ⟨inner, ho⟩ := Kd.R_own HRW6.out
            obtain ⟨cells, hc⟩ := own_typed ho i e.symm
            rw [hi] at hc
            injection hc with hc
            injection hc with _ hc _
            exact ht hc
          have hJ7 : Jn w7 j g fx fy true := (hoth j _ _ _ HJ6.out (by decide)).trans HJ6.out
          have hD7 : Dk w7 w2.heap.size g v6 room ((EE es m : Nat) : Int) (T ++ SS) := by
            refine HD6.out.move (fun i hi hf => ?_)
            obtain ⟨p, hb, _⟩ := HD6.out.blk
            rcases hf with rfl | hf
            · exact hoth i _ _ _ hb (by decide)
            · rcases HD6.out.own.2 with h2 | ⟨k, cap, cur, fz, hv, hk, r⟩
              · rw [h2.1] at hf
                exact absurd hf (by simp [Value.ownBlock])
              · obtain ⟨r1, _⟩ := r
                rw [hv] at hf
                simp only [Value.ownBlock, Option.some.injEq] at hf
                subst hf
                exact hoth _ _ _ _ r1 (by decide)
          exact ⟨v6, T ++ SS, es ++ [⟨fx, fy⟩], fx, fy, true, _, by have := HM.out; rw [List.length_append]; omega, by rw [EE_snoc _ _ _ HM.out], hft, hbt, HSZ.out, HRW7.out, hD7, hJ7, HB7.out⟩
        · have HD6 := Lib.hid hd6
          have HJ6 := Lib.hid hj6
          clear hd6 hj6
          go_wp2_with fail
          go_meet
          exact ⟨v6, T, es, ver, txt, any, _, HM.out, rfl, HFT.out, HT.out, HTR.out, HRW6.out, HD6.out, HJ6.out, HB6.out⟩
      case rest =>
        obtain ⟨v1, T1, es1, ver1, txt1, any1, E1, hm1, rfl, hf1, hT1, hr1, hrow1, hd1, hj1, hb1⟩ := hcut
        clear HCD BKW BK6 HDW HJW HBW HRWW HRW6 HB6 HT HTR HM HFT HSS HFF
        have HC1 := Lib.hid (And.intro hm1 (And.intro hf1 (And.intro hT1 hr1)))
        have HRW1 := Lib.hid hrow1
        have HD1 := Lib.hid hd1
        have HJ1 := Lib.hid hj1
        have HB1' := Lib.hid hb1
        have HE1 : EE es1 es1.length = T1.size := by have := EE_all es1; rw [this, ← hT1, bytesOf_length]
        clear hm1 hf1 hT1 hr1 hrow1 hd1 hj1 hb1
        obtain ⟨A1, c1, rfl⟩ := Kd.R_slice HRW1.out
        cases hs : ((sync / 2 ^ (k % 62)).tmod 2 != 0)
        · go_wp2_with fail
          go_roundw
          case rel => exact ⟨k + 1, v1, T1, es1, m, ver1, txt1, any1, HKL.out, by go_num, rfl, HC1.out.1, HC1.out.2.1, HC1.out.2.2.1, HC1.out.2.2.2, HRW1.out, HD1.out, HJ1.out, HB1'.out⟩
          case measure => have := HKL.out; simp [intOf]; omega
        · go_wp2_with fail
          refine (jsync HD1.out HJ1.out).mono ?_
          rintro e w9 ⟨rfl, hd9, hl9, hj9⟩
          have HD9 := Lib.hid hd9
          have HJ9 := Lib.hid hj9
          have HB9 := Lib.hid (HB1'.out.trans hl9.1)
          have HRW9 := Lib.hid (row_kept HD1.out HJ1.out HRW1.out (fun i h1 h2 _ => hl9.2 i h1 h2))
          clear hd9 hj9 hl9
          go_wp2_with fail
          go_roundw
          case rel => exact ⟨k + 1, v1, T1, es1, es1.length, ver1, txt1, any1, HKL.out, by go_num, rfl, Nat.le_refl _, HC1.out.2.1, HC1.out.2.2.1, HC1.out.2.2.2, HRW9.out, by rw [HE1]; exact HD9.out, HJ9.out, HB9.out⟩
          case measure => have := HKL.out; simp [intOf]; omega
    · obtain rfl : k = xs.length := by omega
      have hTm : T.size ≤ 1048576 := by have := HRM.out; omega
      have hEa : EE es es.length = T.size := by have := EE_all es; rw [this, ← hT, bytesOf_length]
      have hEm : EE es m ≤ T.size := by rw [← hEa]; exact EE_le hm2 (Nat.le_refl _)
      obtain ⟨q1, q2⟩ := cutN_range T (EE es m) keep (by omega) (by omega)
      obtain ⟨n1, hn1⟩ : ∃ n1, n1 = (cutN T (EE es m) keep).toNat := ⟨_, rfl⟩
      have HC := Lib.hid (cut_ex hd keep hEm hTm)
      rw [← hn1] at HC
      have h17 : es.length * 17 ≤ T.size := by
        have h3 : es.length * 17 ≤ (cat es).length := by
          have : ∀ l : List S23, l.length * 17 ≤ (cat l).length := by
            intro l
            induction l with
            | nil => simp [cat]
            | cons a l ih => have e : cat (a :: l) = recE a ++ cat l := by simp [cat]
                             rw [e, List.length_append, recE_length, List.length_cons]; omega
          exact this es
        rw [← hT, bytesOf_length] at h3
        exact h3
      have hn1T : n1 ≤ T.size := by omega
      obtain ⟨M, hmM, hMe, hEn, hR1, hR2, hsz⟩ := power_read es hfit (by omega) T hT n1 hn1T m hm2 (by omega)
      obtain ⟨got, hgot⟩ : ∃ got, got = es.take M := ⟨_, rfl⟩
      obtain ⟨N, hN⟩ : ∃ N, N = EE es M := ⟨_, rfl⟩
      obtain ⟨L, hL⟩ : ∃ L, L = ex T n1 := ⟨_, rfl⟩
      have hgl : got.length = M := by rw [hgot, List.length_take]; omega
      have hLs : L.size = n1 := by rw [hL]; exact ex_size T n1 hn1T
      rw [← hN] at hEn hR1 hR2 hsz
      rw [← hL] at hR1 hR2 hsz HC
      rw [← hgot] at hR1 hR2
      have HR1 := Lib.hid (fun W => journal_Read.calls 2000000 L got (N : Int) W (hR1 2000000 (by omega)))
      have HR2 := Lib.hid (hR2 2000000 (by omega))
      have HSZ := Lib.hid hsz
      have HNU := Lib.hid (show m ≤ M ∧ M ≤ es.length ∧ N ≤ L.size ∧ L.size ≤ 1048576 ∧ es.length ≤ 1048576 by omega)
      have HGL := Lib.hid hgl
      have HGT := Lib.hid hgot
      have HRW := Lib.hid hrow
      have HD := Lib.hid hd
      have HJ := Lib.hid hj
      have HB := Lib.hid hb
      clear hk hm2 hfit hT hTr hrow hd hj hb hTm hEa hEm q1 q2 hn1 h17 hn1T hmM hMe hEn hR1 hR2 hsz hgot hN hL hgl hLs hlt
      go_wp2_with fail
      refine HC.out.mono ?_
      rintro e w5 ⟨rfl, hd5, hl5⟩
      have HB5 := Lib.hid (HB.out.trans hl5.1)
      have HRW5 := Lib.hid (row_kept HD.out HJ.out HRW.out (fun i h1 h2 _ => hl5.2 i h1 h2))
      clear hd5 hl5
      go_wp2_with fail
      refine (HR1.out _).mono ?_
      rintro e w6 ⟨u, rfl, hr, hb⟩
      obtain ⟨Ag, cg, rfl⟩ := Kd.R_slice hr
      obtain ⟨At, ct, rfl⟩ := Kd.R_slice HRW5.out
      have HR6 := Lib.hid hr
      have HB6 := Lib.hid (below_step HB5.out hb)
      have HRW6 := Lib.hid (Kd.R_below HRW5.out hb)
      clear hr hb
      have hc1 : decide (got.length < m) = false := decide_eq_false (by rw [HGL.out]; have := HNU.out; omega)
      have hc2 : decide (es.length < got.length) = false := decide_eq_false (by rw [HGL.out]; have := HNU.out; omega)
      have hc3 : decide (L.size < N) = false := decide_eq_false (by have := HNU.out; omega)
      have hd1 : decide ((got.length : Int) < (m : Int)) = false := decide_eq_false (by rw [HGL.out]; have := HNU.out; omega)
      have hd2 : decide ((es.length : Int) < (got.length : Int)) = false := decide_eq_false (by rw [HGL.out]; have := HNU.out; omega)
      have hd3 : decide ((L.size : Int) < (N : Int)) = false := decide_eq_false (by have := HNU.out; omega)
      have he1 : ¬ got.length < m := of_decide_eq_false hc1
      have he2 : ¬ es.length < got.length := of_decide_eq_false hc2
      have he3 : ¬ L.size < N := of_decide_eq_false hc3
      have hC1 := Lib.hid (Kd.R_reads' HR6.out).2.2
      have hC2 := Lib.hid (Kd.R_reads' HR6.out).2.1
      have hC3 := Lib.hid (show Kd.C k23 w6 At got.length got by have h := Kd.C_take (Kd.R_reads' HRW6.out).2.2 HNU.out.2.1; rw [HGT.out]; exact h)
      have hC4 := Lib.hid (show got.length ≤ ct by have := (Kd.R_reads' HRW6.out).2.1; rw [HGL.out]; have := HNU.out; omega)
      have HSM := Lib.hid (fun k (hk : got.length + 1 ≤ k) => same_refl got (by rw [HGL.out]; have := HNU.out; omega) k hk)
      have he4 : got.length ≤ ct := hC4.out
      clear HR1 hu23
      go_wp2_with fail
      clear hc1 hc2 hc3 hd1 hd2 hd3 he1 he2
      refine (gatehouselaw22_same.calls 2000000 _ _ got _ _ got true _ hC1.out hC2.out hC3.out he4 (HSM.out 2000000 (by rw [HGL.out]; have := HNU.out; omega))).mono ?_
      rintro e w7 ⟨rfl, hdr⟩
      have HB7 := Lib.hid (below_step HB6.out hdr.below)
      have HR7 := Lib.hid (Kd.R_below HR6.out hdr.below)
      clear hdr he4 hC1 hC2 hC3 hC4
      obtain ⟨LN, hLN⟩ : ∃ LN, LN = L.extract 0 N := ⟨_, rfl⟩
      have hns : N ≤ L.size := HNU.out.2.2.1
      have HO := Lib.hid (fun W => open_dk LN 1048576 W (by decide) (by decide) (by have h1 := HSZ.out; have h2 : LN.size = N := by rw [hLN]; exact h1
                                                                                    have := HNU.out; omega))
      have HRL := Lib.hid (show journal_Read.f 2000000 LN = some (got, (LN.size : Int)) by
        have h1 := HR2.out
        have h2 : LN.size = N := by rw [hLN]; exact HSZ.out
        rw [h2, hLN]
        exact h1)
      have hg1 := Lib.hid (show got.length ≤ 1048576 by rw [HGL.out]; have := HNU.out; omega)
      go_wp2_with fail
      rw [← hLN]
      refine (HO.out _).mono ?_
      rintro e w8 ⟨g2, v2, rfl, hd8, hb8⟩
      have HD8 := Lib.hid hd8
      have HB8 := Lib.hid hb8
      clear hd8 hb8 hns hLN
      go_wp2_with fail
      refine (jopen HD8.out HB8.out.size got 2000000 HRL.out hg1.out).mono ?_
      rintro e w9 ⟨j2, u2, ver2, txt2, rfl, hd9, hj9, hvt, hr9, hl9, hjj9⟩
      obtain ⟨Ag2, cg2, rfl⟩ := Kd.R_slice hr9
      have HJ9 := Lib.hid hj9
      have HVT := Lib.hid hvt
      have HR9 := Lib.hid hr9
      have hb79 := HB8.out.trans hl9.1
      have HB9 := Lib.hid (below_step HB7.out hb79)
      have HG9 := Lib.hid (Kd.R_below HR7.out hb79)
      clear hd9 hj9 hvt hr9 hl9 hjj9 hb79
      go_wp2_with fail
      refine (gatehouselaw22_same.calls 2000000 _ _ got _ _ got true _ (Kd.R_reads' HR9.out).2.2 (Kd.R_reads' HR9.out).2.1 (Kd.R_reads' HG9.out).2.2 (Kd.R_reads' HG9.out).2.1 (HSM.out 2000000 (by have := hg1.out; omega))).mono ?_
      rintro e w10 ⟨rfl, hdr⟩
      have HB10 := Lib.hid (below_step HB9.out hdr.below)
      have HG10 := Lib.hid (Kd.R_below HG9.out hdr.below)
      have HJ10 := Lib.hid (show Jn w10 j2 g2 ver2 txt2 (decide (0 < got.length)) from blk_below HJ9.out hdr.below)
      clear hdr
      go_wp2_with fail
      refine (jlast HJ10.out).mono ?_
      rintro e w11 ⟨rfl, hb⟩
      have HB11 := Lib.hid (below_step HB10.out hb)
      have HG11 := Lib.hid (Kd.R_below HG10.out hb)
      clear hb
      go_upto_region 27 with fail
      obtain ⟨W, hW⟩ : ∃ W, W = w11.alloc (.cells #[.int .i64 ver2, .string txt2] 23) := ⟨_, rfl⟩
      obtain ⟨go, hgo⟩ : ∃ go, go = w11.heap.size := ⟨_, rfl⟩
      have hba := below_alloc (Below.refl w11.heap.size w11) (.cells #[.int .i64 ver2, .string txt2] 23)
      have BKW := Lib.hid (show W.heap[go]? = some (.cells #[.int .i64 ver2, .string txt2] 23 (0, 0)) by rw [hW, hgo]; show (w11.heap.push _)[w11.heap.size]? = _; simp)
      have HBW := Lib.hid (show Below w2.heap.size w2 W by rw [hW]; exact below_step HB11.out hba)
      have HGW := Lib.hid (show Kd.R k23 23 W w5.heap.size (fun _ => True) (.slice Ag got.length cg) got by rw [hW]; exact Kd.R_below HG11.out hba)
      rw [← hW, ← hgo]
      clear hW hgo hba HG11 HB11 HJ10 HG10 HB10 HG9 HB9 HR9 HJ9 HR7 HB7 HD8 HB8 HO HRL HSM HSZ HR2 HRW5 HRW6 HR6 HB6 HB5 HC HRW HD HJ HB HGT CA CP CN HR HRE
      obtain ⟨a0, a1⟩ := cells23 BKW.out (Below.refl _ _)
      by_cases hz : got.length = 0
      · have hz1 : decide (0 < got.length) = false := decide_eq_false (by omega)
        have hz2 : decide ((0 : Int) < (got.length : Int)) = false := decide_eq_false (by omega)
        simp only [hz1]
        clear a0 a1 hz
        go_wp2
        repeat (go_quiet (fail); try go_wp2)
        go_ret
        exact ⟨by first | rfl | (simp; done) | (simp [*]; done), pw_below_drewN (below_step HB1.out HBW.out) _⟩
      · have hz1 : decide (0 < got.length) = true := decide_eq_true (by omega)
        have hz2 : decide ((0 : Int) < (got.length : Int)) = true := decide_eq_true (by omega)
        have hi0 : (0 : Int) ≤ (got.length : Int) - 1 := by omega
        have hi1 : (got.length : Int) - 1 < (got.length : Int) := by omega
        have hnat : ((got.length : Int) - 1).toNat = got.length - 1 := by omega
        have hw1 : wrap64 ((got.length : Int) - 1) = (got.length : Int) - 1 := by have := hg1.out; unfold wrap64; omega
        obtain ⟨rfl, rfl⟩ := HVT.out (by omega)
        obtain ⟨ad, e23, r0, r1⟩ := at_T23 (Kd.R_reads' HGW.out).2.2 _ hi0 hi1
        cases e23
        rw [hnat] at r0 r1
        simp only [hz1]
        clear hz
        go_wp2
        repeat (go_quiet (fail); try go_wp2)
        go_ret
        exact ⟨by first | rfl | (simp; done) | (simp [*]; done), pw_below_drewN (below_step HB1.out HBW.out) _⟩
end Go.Proofs.Ytcoodlncjnekoaa.F
namespace Go.Proofs.Ytcoodlncjnekoaa.F
open Go.RowKit Go.Proofs.YtcoodlncjnekoaaW.PrintWords
set_option linter.unusedVariables false
theorem JournalPower.walk (x0 : Int) (v0 : Value) (x1 : (List S23)) (v1 : Value) (x2 : Int) (v2 : Value) (x3 : Int) (v3 : Value) (w : World) (hk0 : Kd.K (Kd.int .i64) w x0 [v0]) (hg0 : (Lit.int .i64 x0).wf = true) (hk1 : Kd.K (Kd.slice 23 k23) w x1 [v1]) (hg1 : (x1.length * 24 ≤ 140737488351232 ∧ x1.length ≤ 9223372036854775807 ∧ ∀ x_ ∈ x1, g23 x_)) (hk2 : Kd.K (Kd.int .i64) w x2 [v2]) (hg2 : (Lit.int .i64 x2).wf = true) (hk3 : Kd.K (Kd.int .i64) w x3 [v3]) (hg3 : (Lit.int .i64 x3).wf = true) :
    Calls Try.prog 13 #[v0, v1, v2, v3] w fun e w' => e = .returned (.bool true) ∧ Below w.heap.size w w' := by
  have h0 : [v0] = [Value.int .i64 x0] := hk0
  injection h0 with h0
  subst h0
  have h2 : [v2] = [Value.int .i64 x2] := hk2
  injection h2 with h2
  subst h2
  have h3 : [v3] = [Value.int .i64 x3] := hk3
  injection h3 with h3
  subst h3
  obtain ⟨A, c, h1, hc, hr⟩ := hk1
  injection h1 with h1
  subst h1
  exact power_walk x0 A c x1 x2 x3 w hc hr hg1.2.1
end Go.Proofs.Ytcoodlncjnekoaa.F
