/- apart: the walk. Conditions: the lists share no memory; they are what they must be; their lengths. -/
import Derived.Test.YtcoodlncjnekoaaAz
namespace Go.Proofs.Ytcoodlncjnekoaa.F
open Go.RowKit Go.Proofs.YtcoodlncjnekoaaW.PrintWords Go.Proofs.JournalPlain
set_option linter.unusedVariables false
theorem Lo.below {w0 w w' : World} {S0 B : Nat} {vG vW : Value} {gs ws : List Sv} {Xs Z : Nat → List S23} {vL : Value} {ls : List Sv} {n : Nat} (h : Lo w0 w S0 B vG vW gs ws Xs Z vL ls n) (hb : Below w.heap.size w w') : Lo w0 w' S0 B vG vW gs ws Xs Z vL ls n :=
  ⟨h.G.below hb, h.W.below hb, fun i hi => (h.ww i hi).below hb, h.b.trans (bweak hb (Nat.le_trans h.bs h.s0)), h.bs, Nat.le_trans h.s0 hb.size, fun j h1 h2 => (h.later j h1 h2).below hb, fun j h1 h2 => ⟨(h.done j h1 h2).1.below hb, (h.done j h1 h2).2.1.keep (fun b _ hs => hb.block b hs), (h.done j h1 h2).2.2⟩, h.long.below hb, h.ln, h.old⟩
theorem mk2_odd (Xs : Nat → List S23) (m i : Nat) (h : ¬ i % 2 = 0) : mk2 Xs m i = Xs i := by
  unfold mk2
  rw [if_neg (fun c => h c.1)]
theorem mk2_even (Xs : Nat → List S23) (i : Nat) (h : i % 2 = 0) (hi : i < 6) : mk2 Xs 3 i = List.replicate (Xs i).length (⟨-100 - (i : Int), ⟨#[]⟩⟩ : S23) := by
  unfold mk2
  rw [if_pos ⟨h, by omega⟩]
  unfold marks
  rw [List.drop_length, List.append_nil]
theorem rd_low (n : Nat) (a : S23) (L : List S23) (k : Nat) (h : k < n) : rd_T23 (List.replicate n a ++ L) (k : Int) = a := by
  unfold rd_T23
  show (List.replicate n a ++ L).getD k z23 = a
  rw [List.getD_eq_getElem?_getD, List.getElem?_append_left (by rw [List.length_replicate]; exact h), List.getElem?_replicate, if_pos h]
  rfl
theorem rd_high (n m : Nat) (a b : S23) (k : Nat) (h : n ≤ k) (h2 : k < n + m) : rd_T23 (List.replicate n a ++ List.replicate m b) (k : Int) = b := by
  unfold rd_T23
  show (List.replicate n a ++ List.replicate m b).getD k z23 = b
  rw [List.getD_eq_getElem?_getD, List.getElem?_append_right (by rw [List.length_replicate]; exact h), List.length_replicate, List.getElem?_replicate, if_pos (by omega)]
  rfl
theorem appS (W : World) (B : Nat) (v : Value) (X : List Sv) (x : Sv) (h : Rs W B v X) (hB : B ≤ W.heap.size) (hl : X.length ≤ 2000000) :
    ∃ v' w', (Builtin.append_ #[31, 31] 31 #[v, .slice (some ⟨W.heap.size, 0, none⟩) 1 1]).run Try.prog (W.alloc (.cells #[encS x] 28)) = .ok v' w' ∧ Rs w' B v' (X ++ [x]) ∧ Below B W w' ∧ W.grownBy w' v.ownBlock ∧ (v'.ownBlock = v.ownBlock ∨ ∃ b, v'.ownBlock = some b ∧ W.heap.size ≤ b) := by
  have h' : Kd.R kS 28 W B (fun _ => True) v X := Kd.R_mono h (fun _ _ => trivial)
  obtain ⟨hok, inner, ho, hr⟩ := h'
  obtain ⟨i0, hi, hzz⟩ := Option.map_eq_some_iff.1 info28
  simp only [Prod.mk.injEq] at hzz
  obtain ⟨hz0, hz1, hz2⟩ := hzz
  obtain ⟨v', w', hrun, h2, h3, h4, _⟩ := run_append_two (W.alloc (.cells #[encS x] 28)) 31 31 B 28 i0 _ 1 24 Try.underlying31 hi hz0 hz1 hz2 rfl (by decide) v X.length inner (ho.alloc _) ⟨W.heap.size, 0, none⟩ 1 1 [encS x] rfl
    (by simpa using World.news_of_block (cs := #[encS x]) (t := 28) (fr := (0, 0)) (heap_alloc_new W (.cells #[encS x] 28))) (by intro u hu; simp at hu; subst hu; rfl) (by decide) (by simp only [maxLen]; omega) (by omega) (by simp; omega)
  have hga : W.grownBy w' v.ownBlock := World.grownBy.trans (World.grownBy_alloc W _ _) h3
  have hat : v'.ownBlock = v.ownBlock ∨ ∃ b, v'.ownBlock = some b ∧ W.heap.size ≤ b := by
    rcases h4 with h4 | h4
    · exact .inl h4
    · exact .inr ⟨_, h4, by simp⟩
  refine ⟨v', w', hrun, ?_, (Below.refl B W).grown hga hB (own_base ho), hga, hat⟩
  exact Rs.of (Kd.R_appended hok hr (show kS.M W B (fun _ => False) x [encS x] from rfl) (fun _ hk => hk.elim) (fun _ _ => trivial) h2 hga hat)
theorem wpList_append_run {P : Program} {ops : Array Oper} {rest : List Oper} {o : Oper} {a : Act} {Q : Exit → Act → World → Prop} {w w' : World} {v u v' : Value} (hgd : o.guard = none) (s x : Operand) (t : TypeId)
    (ho : o.op = .call { callee := .builtin .append, args := #[s, x], argTypes := #[t, t] }) (hs : a.eval s = v) (hx : a.eval x = u) (hr : (Builtin.append_ #[t, t] o.type #[v, u]).run P w = .ok v' w')
    (h : wpList P ops Q rest (a.put o.dst v') w') : wpList P ops Q (o :: rest) a w := by
  refine wpList_plain hgd fun K hK => ?_
  unfold Oper.wp execOp
  simp only [ho, resolve, invoke, builtin, Sem.run_bind, Sem.run_pure, Result.andThen_ok, List.map_toArray, List.map_cons, List.map_nil, hs, hx, hr]
  exact hK _ _ h
set_option maxHeartbeats 2000000 in
set_option maxRecDepth 100000 in
theorem apart_calls (w : World) (B : Nat) (vG vW : Value) (gs ws : List Sv) (Xs : Nat → List S23) (hd : Di gs ws) (hs : Sp w w B vG vW gs ws Xs Xs) (hX : ∀ i, (Xs i).length ≤ 1048576) :
    Calls Try.prog 18 #[vG, vW] w fun e w' => e = .returned (.bool true) ∧ Below B w w' ∧ ∀ i, i < 6 → Rt w' B (encS (ws.getD i dS)) (Xs i) := by
  obtain ⟨AG, cG, rfl⟩ := Kd.R_slice hs.G
  obtain ⟨AW, cW, rfl⟩ := Kd.R_slice hs.W
  have hu23 := Try.underlying23
  have lg := hd.lg
  have lw := hd.lw
  rw [lg, lw] at hs ⊢
  have HS := Lib.hid hs
  have HD := Lib.hid hd
  have HX := Lib.hid hX
  clear hs hd hX
  go_enter Try.func18, Try.ntmps18
  go_wp2_with fail
  go_loopw [5] (fun v wr => ∃ (i : Nat), v = .int .i64 (i : Nat) ∧ i ≤ 6 ∧ Sp w wr B (.slice AG 6 cG) (.slice AW 6 cW) gs ws Xs Xs) (fun v _ => 6 - (intOf v).toNat)
  case atStart => exact ⟨0, rfl, by omega, HS.out⟩
  case round =>
    obtain ⟨i, rfl, hi, hsp⟩ := hrel
    by_cases hlt : i < 6
    · obtain ⟨ad, ea, ca⟩ := at_S hsp.G i (by omega)
      obtain ⟨bd, eb, cb⟩ := at_S hsp.W i (by omega)
      subst ea eb
      have hg := hsp.g i hlt
      have hw := hsp.ww i hlt
      obtain ⟨A1, c1, e1⟩ := Kd.R_slice hg
      obtain ⟨A2, c2, e2⟩ := Kd.R_slice hw
      rw [e1] at ca hg
      rw [e2] at cb hw
      have hix : (i : Int) < 6 := by omega
      have CS := Lib.hid (fun W (q1 : Kd.C k23 W A1 (Xs i).length (Xs i)) (q2 : Kd.C k23 W A2 (Xs i).length (Xs i)) => gatehouseref22_Same.calls 2000000 A1 c1 (Xs i) A2 c2 (Xs i) true W q1 (Kd.R_reads' hg).2.1 q2 (Kd.R_reads' hw).2.1 (Same_refl _ (by have := HX.out i; omega) _ (by have := HX.out i; omega)))
      have HSP := Lib.hid hsp
      have HG := Lib.hid (Kd.R_reads' hg).2.2
      have HW := Lib.hid (Kd.R_reads' hw).2.2
      clear hsp hg hw e1 e2 hi
      go_wp2_with fail
      go_quiet ((go_at_call 19; exact Calls.quiet_of ((CS.out _ (Kd.C_drewN HG.out _) (Kd.C_drewN HW.out _)).mono (fun _ _ h => ⟨h.1, h.2.out⟩))))
      go_wp2_with fail
      go_roundw
      case rel => exact ⟨i + 1, by go_num, hlt, HSP.out.below (pw_below_drewN (Below.refl _ _) _)⟩
      case measure => simp [intOf]; omega
    · have hix : ¬ (i : Int) < 6 := by omega
      have HSP := Lib.hid hsp
      clear hsp hlt hi
      go_wp2_with fail
      go_loopw [7] (fun v wr => ∃ (m : Nat), v = .int .i64 ((2 * m : Nat) : Int) ∧ m ≤ 3 ∧ Sp w wr B (.slice AG 6 cG) (.slice AW 6 cW) gs ws Xs (mk2 Xs m)) (fun v _ => 7 - (intOf v).toNat)
      case atStart => exact ⟨0, rfl, by omega, by rw [mk2_zero]; exact HSP.out⟩
      case round =>
        obtain ⟨m, rfl, hm, hsp⟩ := hrel
        by_cases hlt : m < 3
        · have hix : ((2 * m : Nat) : Int) < 6 := by omega
          have HSP := Lib.hid hsp
          clear hsp hm
          go_wp2_with fail
          go_loopw [8] (fun v wr => ∃ (k : Nat), v = .int .i64 (k : Nat) ∧ k ≤ (Xs (2 * m)).length ∧ Sp w wr B (.slice AG 6 cG) (.slice AW 6 cW) gs ws Xs (fun i => if i = 2 * m then marks (2 * m) k (Xs (2 * m)) else mk2 Xs m i)) (fun v _ => (Xs (2 * m)).length - (intOf v).toNat)
          case atStart => exact ⟨0, rfl, Nat.zero_le _, by rw [mk2_start]; exact HSP.out⟩
          case round =>
            obtain ⟨k, rfl, hk, hsp⟩ := hrel
            obtain ⟨ad, ea, ca⟩ := at_S hsp.G (2 * m) (by omega)
            subst ea
            have hg := hsp.g (2 * m) (by omega)
            simp only [if_true] at hg
            obtain ⟨A1, c1, e1⟩ := Kd.R_slice hg
            have hml : (marks (2 * m) k (Xs (2 * m))).length = (Xs (2 * m)).length := marks_len _ _ _ hk
            rw [hml] at e1
            rw [e1] at ca hg
            by_cases hlk : k < (Xs (2 * m)).length
            · have hix2 : (k : Int) < ((Xs (2 * m)).length : Int) := by omega
              have hix3 : ((2 * m : Nat) : Int) < 6 := by omega
              obtain ⟨g, hA1⟩ : ∃ g, A1 = some ⟨g, 0, none⟩ := by
                obtain ⟨inner, ho⟩ := Kd.R_own hg
                rcases ho.2 with ⟨hv, h0⟩ | ⟨g, cap, cur, hv, _⟩
                · injection hv with _ hv _
                  omega
                · injection hv with hv _ _
                  exact ⟨g, hv⟩
              subst hA1
              obtain ⟨ce, hcl, hcM, hcc, hcf⟩ := Kd.R_elem hg z23 (k : Int) (by omega) hix2
              have hkk : (k : Int).toNat = k := rfl
              rw [hkk] at hcc hcf
              have hcl2 : ce.length = 2 := hcl
              obtain ⟨q0, q1, rfl⟩ : ∃ q0 q1, ce = [q0, q1] := by
                match ce, hcl2 with
                | [a, b], _ => exact ⟨a, b, rfl⟩
              have hrs := Kd.R_seg (seg := [.int .i64 (-100 - ((2 * m : Nat) : Int)), .string ⟨#[]⟩]) (j := 0) (okp := fun _ => False) (x' := (⟨-100 - ((2 * m : Nat) : Int), ⟨#[]⟩⟩ : S23)) hg (k : Int) (by omega) hix2 rfl hcc (show 0 + 2 ≤ 2 by decide) (k23_mkM _ _ _ (⟨-100 - ((2 * m : Nat) : Int), ⟨#[]⟩⟩ : S23)) (fun _ h => h.elim)
              rw [hkk, marks_set _ _ _ hlk] at hrs
              have e2m : ((2 * m : Nat) : Int) = 2 * (m : Int) := by omega
              have hBg : B ≤ g := Kd.R_base hg g rfl
              have hput := hsp.put HD.out (2 * m) (by omega) (marks (2 * m) (k + 1) (Xs (2 * m))) (by rw [e1]; exact hrs.1) (by rw [e1]; exact hrs.2) (((Below.refl B wr).setCell (p := ⟨g, k * 2, none⟩) hBg (.int .i64 (-100 - ((2 * m : Nat) : Int)))).setCell (p := ⟨g, k * 2 + 1, none⟩) hBg (.string ⟨#[]⟩))
              have HP := Lib.hid hput
              clear hput hrs hBg
              have s0 := hcc 0 q0 rfl
              have s1 := hcc 1 q1 rfl
              have t0 := hcf 0
              have t1 := hcf 1
              have ez : k23.sz = 2 := rfl
              rw [ez] at s0 s1 t0 t1
              rw [Nat.add_zero] at s0 t0
              have HSP := Lib.hid hsp
              have HG := Lib.hid hg
              clear hsp hg e1 hcc hcf hcl hcl2 hcM
              have HL := Lib.hid hlk
              have HE := Lib.hid e2m
              have HWR := Lib.hid (show wrap64 ((k : Int) + 1) = ((k + 1 : Nat) : Int) by have := HX.out (2 * m); unfold wrap64; omega)
              clear e2m hlk hk
              go_wp2_with fail
              go_roundw
              case rel =>
                refine ⟨k + 1, by rw [HWR.out], HL.out, ?_⟩
                have h := HP.out
                rw [HE.out] at h
                refine (congrArg (fun Y => Sp w _ B _ _ gs ws Xs Y) (funext fun i => ?_)).mp h
                by_cases c : i = 2 * m
                · rw [if_pos c, if_pos c]
                · rw [if_neg c, if_neg c, if_neg c]
              case measure => rw [HWR.out]; have := HL.out; simp [intOf]; omega
            · have hke : k = (Xs (2 * m)).length := by omega
              subst hke
              have hix2 : ¬ (((Xs (2 * m)).length : Int) < ((Xs (2 * m)).length : Int)) := by omega
              have hix3 : ((2 * m : Nat) : Int) < 6 := by omega
              have HSP := Lib.hid hsp
              clear hsp hg e1 hml hlk hk
              go_wp2_with fail
              go_roundw
              case rel => exact ⟨m + 1, by go_num, hlt, by have h := HSP.out; rw [mk2_step] at h; exact h⟩
              case measure => simp [intOf]; omega
        · obtain rfl : m = 3 := by omega
          rw [show (((2 * 3 : Nat)) : Int) = 6 from rfl]
          have HSP := Lib.hid hsp
          clear hsp hlt hm
          go_wp2_with fail
          obtain ⟨S0, hS0⟩ : ∃ S0, S0 = wr.heap.size := ⟨_, rfl⟩
          have HLO := Lib.hid (Lo.start HSP.out)
          rw [← hS0] at HLO
          have hZl : ∀ j, (mk2 Xs 3 j).length ≤ 1048576 := fun j => by
            unfold mk2
            split
            · rw [marks_len _ _ _ (Nat.le_refl _)]; exact HX.out j
            · exact HX.out j
          obtain ⟨Z, hZ⟩ : ∃ Z, Z = mk2 Xs 3 := ⟨_, rfl⟩
          rw [← hZ] at HLO hZl
          have HZL := Lib.hid hZl
          have HZ := Lib.hid hZ
          clear hZ hZl hS0 HSP
          go_loopw [9, 10] (fun v9 v10 wr => ∃ (n : Nat) (ls : List Sv), v10 = .int .i64 (n : Nat) ∧ n ≤ 6 ∧ Lo w wr S0 B (.slice AG 6 cG) (.slice AW 6 cW) gs ws Xs Z v9 ls n) (fun _ v _ => 6 - (intOf v).toNat)
          case atStart => exact ⟨0, [], rfl, by omega, HLO.out⟩
          case round =>
            obtain ⟨n, ls, rfl, hn, hlo⟩ := hrel
            rename World => wo
            by_cases hlt : n < 6
            · obtain ⟨ad, ea, ca⟩ := at_S hlo.G n (by omega)
              subst ea
              have hix : (n : Int) < 6 := by omega
              have hrn := hlo.later n (Nat.le_refl _) hlt
              have HLN := Lib.hid (Lg.start hrn (Nat.le_trans hlo.bs hlo.s0))
              have HLW := Lib.hid hlo
              have HN := Lib.hid hlt
              obtain ⟨gv, hgv⟩ : ∃ gv, gv = encS (gs.getD n dS) := ⟨_, rfl⟩
              rw [← hgv] at ca HLN
              have HGV := Lib.hid hgv
              clear hlo hrn hn hlt hgv HLO
              go_wp2_with fail
              go_loopw [11, 12] (fun v11 v12 wr => ∃ (k : Nat) (x : Sv), v12 = .int .i64 (k : Nat) ∧ v11 = encS x ∧ k ≤ (if n % 2 = 0 then 12 else 0) ∧ Lg wo wr B gv (Z n) (encS x) (Z n ++ List.replicate k (⟨-1000 - (n : Int), ⟨#[]⟩⟩ : S23))) (fun _ v _ => 12 - (intOf v).toNat)
              case atStart => exact ⟨0, gs.getD n dS, rfl, HGV.out, Nat.zero_le _, by rw [← HGV.out]; simpa using HLN.out⟩
              case round =>
                obtain ⟨k, ⟨xa, xn, xc⟩, rfl, rfl, hk, hlg⟩ := hrel
                rw [show encS (xa, xn, xc) = .slice xa xn xc from rfl]
                have hlg : Lg wo wr B gv (Z n) (.slice xa xn xc) (Z n ++ List.replicate k (⟨-1000 - (n : Int), ⟨#[]⟩⟩ : S23)) := hlg
                have hBw : B ≤ wr.heap.size := Nat.le_trans hlg.bs hlg.blw.size
                have hgo : ∀ b, gv.ownBlock = some b → b < wo.heap.size := fun b hb => by
                  have h1 := HLW.out.old.2.2.2.1 n HN.out b (by rw [← HGV.out]; exact hb)
                  exact Nat.lt_of_lt_of_le h1 HLW.out.s0
                by_cases he : n % 2 = 0
                · have het : ((n : Int).tmod 2 == 0) = true := beq_iff_eq.2 (by show ((n % 2 : Nat) : Int) = 0; omega)
                  rw [if_pos he] at hk
                  by_cases hk12 : k < 12
                  · have hkz : (k : Int) < 12 := by omega
                    have hix : (n : Int) < 6 := by have := HN.out; omega
                    obtain ⟨v', w', hrun, hr, hb, hgr, ht⟩ := app23 wr B (.slice xa xn xc) _ (-1000 - (n : Int)) ⟨#[]⟩ hlg.row hBw (by rw [List.length_append, List.length_replicate]; have := HZL.out n; omega)
                    have hlg2 := hlg.app hgo hr hb hgr ht
                    rw [List.append_assoc, ← List.replicate_succ'] at hlg2
                    obtain ⟨A', c', e'⟩ := Kd.R_slice hr
                    have hlen : (Z n ++ List.replicate k (⟨-1000 - (n : Int), ⟨#[]⟩⟩ : S23) ++ [(⟨-1000 - (n : Int), ⟨#[]⟩⟩ : S23)]).length = (Z n).length + (k + 1) := by simp
                    rw [hlen] at e'
                    subst e'
                    have HLG := Lib.hid hlg2
                    have HK := Lib.hid hk12
                    have HE := Lib.hid he
                    have HRUN := Lib.hid hrun
                    clear hlg hr hb hgr ht hlg2 hBw hgo hk hrun
                    go_wp2_with ((with_reducible refine gate_builtin (b := .append) (xs := #[.tmp 77, .tmp 81]) rfl ?_); at_builtin; refine wpList_append_run rfl (.tmp 77) (.tmp 81) 28 rfl rfl rfl HRUN.out ?_)
                    go_roundw
                    case rel => exact ⟨k + 1, (A', _, c'), by go_num, rfl, by first | (rw [if_pos HE.out]; have := HK.out; omega) | (have := HK.out; omega), HLG.out⟩
                    case measure => have := HK.out; simp [intOf]; omega
                  · have hkz : ¬ (k : Int) < 12 := by omega
                    obtain rfl : k = 12 := by omega
                    have htl : List.replicate 12 (⟨-1000 - (n : Int), ⟨#[]⟩⟩ : S23) = tails n := by unfold tails; rw [if_pos he]
                    rw [htl] at hlg
                    have HLG := Lib.hid hlg
                    clear hlg hBw hgo hk htl he hk12
                    have hn6 : (n : Int) < 6 := by have := HN.out; omega
                    obtain ⟨mG, mW, mww, mb, ms, ml, mdn, mlong⟩ := HLW.out.mid HD.out HN.out (by rw [← HGV.out]; exact HLG.out)
                    have hBw : B ≤ wr.heap.size := Nat.le_trans HLG.out.bs HLG.out.blw.size
                    obtain ⟨v', w', hrun, hrs, hbb, hgr, hat⟩ := appS wr B u9 ls (xa, xn, xc) mlong hBw (by rw [HLW.out.ln]; have := HN.out; omega)
                    have HNX := Lib.hid (HLW.out.next HD.out HN.out (by rw [← HGV.out]; exact HLG.out) hrs hbb hgr hat)
                    have HRUN := Lib.hid hrun
                    clear mG mW mww mb ms ml mdn mlong hBw hrun hrs hbb hgr hat
                    go_wp2_with ((with_reducible refine gate_builtin (b := .append) (xs := #[.tmp 83, .tmp 85]) rfl ?_); at_builtin; refine wpList_append_run rfl (.tmp 83) (.tmp 85) 31 rfl rfl rfl HRUN.out ?_)
                    go_roundw
                    case rel => exact ⟨n + 1, ls ++ [(xa, xn, xc)], by go_num, HN.out, HNX.out⟩
                    case measure => have := HN.out; simp [intOf]; omega
                · have het : ((n : Int).tmod 2 == 0) = false := beq_eq_false_iff_ne.2 (by show ¬ ((n % 2 : Nat) : Int) = 0; omega)
                  have het2 : ((n : Int) % 2 == 0) = false := beq_eq_false_iff_ne.2 (by omega)
                  rw [if_neg he] at hk
                  obtain rfl : k = 0 := by omega
                  have htl : List.replicate 0 (⟨-1000 - (n : Int), ⟨#[]⟩⟩ : S23) = tails n := by unfold tails; rw [if_neg he]; rfl
                  rw [htl] at hlg
                  have HLG := Lib.hid hlg
                  clear hlg hBw hgo hk htl he
                  have hn6 : (n : Int) < 6 := by have := HN.out; omega
                  obtain ⟨mG, mW, mww, mb, ms, ml, mdn, mlong⟩ := HLW.out.mid HD.out HN.out (by rw [← HGV.out]; exact HLG.out)
                  have hBw : B ≤ wr.heap.size := Nat.le_trans HLG.out.bs HLG.out.blw.size
                  obtain ⟨v', w', hrun, hrs, hbb, hgr, hat⟩ := appS wr B u9 ls (xa, xn, xc) mlong hBw (by rw [HLW.out.ln]; have := HN.out; omega)
                  have HNX := Lib.hid (HLW.out.next HD.out HN.out (by rw [← HGV.out]; exact HLG.out) hrs hbb hgr hat)
                  have HRUN := Lib.hid hrun
                  clear mG mW mww mb ms ml mdn mlong hBw hrun hrs hbb hgr hat
                  go_wp2_with ((with_reducible refine gate_builtin (b := .append) (xs := #[.tmp 83, .tmp 85]) rfl ?_); at_builtin; refine wpList_append_run rfl (.tmp 83) (.tmp 85) 31 rfl rfl rfl HRUN.out ?_)
                  go_roundw
                  case rel => exact ⟨n + 1, ls ++ [(xa, xn, xc)], by go_num, HN.out, HNX.out⟩
                  case measure => have := HN.out; simp [intOf]; omega
            · obtain rfl : n = 6 := by omega
              have HLO6 := Lib.hid hlo
              clear hlo hlt hn HLO
              go_wp2_with fail
              obtain ⟨AL, cL, eL⟩ := Kd.R_slice HLO6.out.long
              rw [HLO6.out.ln] at eL
              subst eL
              go_loopw [13] (fun v wr => ∃ (i : Nat), v = .int .i64 (i : Nat) ∧ i ≤ 6 ∧ Lo w wr S0 B (.slice AG 6 cG) (.slice AW 6 cW) gs ws Xs Z (.slice AL 6 cL) ls 6) (fun v _ => 6 - (intOf v).toNat)
              case atStart => exact ⟨0, rfl, by omega, HLO6.out⟩
              case round =>
                obtain ⟨i, rfl, hi, hlo⟩ := hrel
                by_cases hlt : i < 6
                · have hix : (i : Int) < 6 := by omega
                  have HLQ := Lib.hid hlo
                  have HN := Lib.hid hlt
                  by_cases he : i % 2 = 0
                  · have het : ((i : Int) % 2 == 1) = false := beq_eq_false_iff_ne.2 (by omega)
                    have het2 : ((i : Int).tmod 2 == 1) = false := beq_eq_false_iff_ne.2 (by show ¬ ((i % 2 : Nat) : Int) = 1; omega)
                    obtain ⟨N, hNN⟩ : ∃ N, N = (Xs i).length := ⟨_, rfl⟩
                    have hZi : Z i = List.replicate N (⟨-100 - (i : Int), ⟨#[]⟩⟩ : S23) := by rw [HZ.out, hNN]; exact mk2_even Xs i he hlt
                    have hTi : tails i = List.replicate 12 (⟨-1000 - (i : Int), ⟨#[]⟩⟩ : S23) := by unfold tails; rw [if_pos he]
                    have hN8 : N ≤ 1048576 := by rw [hNN]; exact HX.out i
                    have HZI := Lib.hid hZi
                    have HTI := Lib.hid hTi
                    have HN8 := Lib.hid hN8
                    clear hlo hi hlt he hZi hTi hNN hN8
                    go_wp2_with fail
                    go_loopw [15] (fun v wr => ∃ (k : Nat), v = .int .i64 (k : Nat) ∧ k ≤ N + 12 ∧ Lo w wr S0 B (.slice AG 6 cG) (.slice AW 6 cW) gs ws Xs Z (.slice AL 6 cL) ls 6) (fun v _ => N + 12 - (intOf v).toNat)
                    case atStart => exact ⟨0, rfl, Nat.zero_le _, HLQ.out⟩
                    case round =>
                      obtain ⟨k, rfl, hk, hlo⟩ := hrel
                      have hN6 := HN.out
                      have hN8 := HN8.out
                      obtain ⟨d1, d2, _⟩ := hlo.done i hN6 hN6
                      obtain ⟨ad1, ea, ca⟩ := at_S hlo.G i (by omega)
                      obtain ⟨bd, eb, cb⟩ := at_S hlo.long i (by rw [hlo.ln]; exact hN6)
                      obtain ⟨A1, c1, e1, hc1, hC1⟩ := d2.read
                      obtain ⟨A2, c2, e2⟩ := Kd.R_slice d1
                      rw [e2] at d1 cb
                      have hC2 := (Kd.R_reads' d1).2.2
                      rw [HZI.out, List.length_replicate] at e1 hC1
                      have hl2 : (Z i ++ tails i).length = N + 12 := by rw [HZI.out, HTI.out, List.length_append, List.length_replicate, List.length_replicate]
                      rw [hl2] at cb hC2
                      rw [HZI.out, HTI.out] at hC2
                      rw [e1] at ca
                      subst ea eb
                      have HLQ2 := Lib.hid hlo
                      have hix : (i : Int) < 6 := by omega
                      by_cases hkl : k < N + 12
                      · have hkz : (k : Int) < ((N + 12 : Nat) : Int) := by omega
                        obtain ⟨a2, ea2, x2, _⟩ := at_T23 hC2 (k : Int) (by omega) hkz
                        subst ea2
                        have hkt : (k : Int).toNat = k := rfl
                        rw [hkt] at x2
                        by_cases hkn : k < N
                        · have hkn2 : (k : Int) < (N : Int) := by omega
                          obtain ⟨a1, ea1, x1, _⟩ := at_T23 hC1 (k : Int) (by omega) hkn2
                          subst ea1
                          rw [hkt] at x1
                          have r1 : rd_T23 (List.replicate N (⟨-100 - (i : Int), ⟨#[]⟩⟩ : S23)) (k : Int) = ⟨-100 - (i : Int), ⟨#[]⟩⟩ := by
                            have := rd_low N (⟨-100 - (i : Int), ⟨#[]⟩⟩ : S23) [] k hkn
                            rw [List.append_nil] at this
                            exact this
                          rw [r1] at x1
                          rw [rd_low N _ _ k hkn] at x2
                          have HK := Lib.hid (And.intro hkl hk)
                          clear hlo d1 d2 e1 e2 hC1 hC2 hc1 hl2 r1 hk
                          go_wp2_with fail
                          go_roundw
                          case rel => exact ⟨k + 1, by go_num, HK.out.1, HLQ2.out⟩
                          case measure => have := HK.out; simp [intOf]; omega
                        · have hkn2 : ¬ (k : Int) < (N : Int) := by omega
                          rw [rd_high N 12 _ _ k (by omega) hkl] at x2
                          have HK := Lib.hid (And.intro hkl hk)
                          clear hlo d1 d2 e1 e2 hC1 hC2 hc1 hl2 hk
                          go_wp2_with fail
                          go_roundw
                          case rel => exact ⟨k + 1, by go_num, HK.out.1, HLQ2.out⟩
                          case measure => have := HK.out; simp [intOf]; omega
                      · have hkz : ¬ (k : Int) < ((N + 12 : Nat) : Int) := by omega
                        clear hlo d1 d2 e1 e2 hC1 hC2 hc1 hl2 hk
                        go_wp2_with fail
                        go_roundw
                        case rel => exact ⟨i + 1, by go_num, HN.out, HLQ2.out⟩
                        case measure => have := HN.out; simp [intOf]; omega
                  · have het : ((i : Int) % 2 == 1) = true := beq_iff_eq.2 (by omega)
                    have het2 : ((i : Int).tmod 2 == 1) = true := beq_iff_eq.2 (by show ((i % 2 : Nat) : Int) = 1; omega)
                    obtain ⟨ad1, ea, ca⟩ := at_S hlo.G i (by omega)
                    obtain ⟨bd, eb, cb⟩ := at_S hlo.W i (by omega)
                    have hZi : Z i = Xs i := by rw [HZ.out]; exact mk2_odd Xs 3 i he
                    obtain ⟨A1, c1, e1, hc1, hC1⟩ := ((hlo.done i hlt hlt).2.1).read
                    have hw := hlo.ww i hlt
                    obtain ⟨A2, c2, e2⟩ := Kd.R_slice hw
                    rw [hZi] at e1 hc1 hC1
                    rw [e1] at ca
                    rw [e2] at cb hw
                    subst ea eb
                    have CS := Lib.hid (fun W (q1 : Kd.C k23 W A1 (Xs i).length (Xs i)) (q2 : Kd.C k23 W A2 (Xs i).length (Xs i)) => gatehouseref22_Same.calls 2000000 A1 c1 (Xs i) A2 c2 (Xs i) true W q1 hc1 q2 (Kd.R_reads' hw).2.1 (Same_refl _ (by have := HX.out i; omega) _ (by have := HX.out i; omega)))
                    have HG := Lib.hid hC1
                    have HW := Lib.hid (Kd.R_reads' hw).2.2
                    clear hlo hw e1 e2 hi hlt he hZi hC1 hc1
                    go_wp2_with fail
                    go_quiet ((go_at_call 19; exact Calls.quiet_of ((CS.out _ (Kd.C_drewN HG.out _) (Kd.C_drewN HW.out _)).mono (fun _ _ h => ⟨h.1, h.2.out⟩))))
                    go_wp2_with fail
                    go_roundw
                    case rel => exact ⟨i + 1, by go_num, HN.out, HLQ.out.below (pw_below_drewN (Below.refl _ _) _)⟩
                    case measure => have := HN.out; simp [intOf]; omega
                · have HLQ := Lib.hid hlo
                  have hix : ¬ (i : Int) < 6 := by omega
                  clear hlo hlt hi
                  go_wp2_with fail
                  go_ret
                  exact ⟨rfl, HLQ.out.b, HLQ.out.ww⟩
end Go.Proofs.Ytcoodlncjnekoaa.F
