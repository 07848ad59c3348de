import Derived.Test.YteefneemmdfncaaDt
/- diff.Chain, walked: the changes of each step. Conditions: the policies read as they must and are small enough. -/
namespace Go.Proofs.Yteefneemmdfncaa.M
open Go.RowKit Go.Proofs.YteefneemmdfncaaW.Raw Go.Proofs.YteefneemmdfncaaW.PrintWords Go.Proofs.Yteefneemmdfncaa.F
set_option linter.unusedVariables false
set_option linter.unusedSimpArgs false
/-- The policy ahead of a step. -/
def prevP (p0 : Pol) (l : List Pol) (k : Nat) : Pol := (p0 :: l).getD k p0
def chainTo (p0 : Pol) (l : List Pol) (k : Nat) : List (List Chg) := (List.range k).map fun j => chL (prevP p0 l j) (prevP p0 l (j + 1))
theorem chainTo_succ (p0 : Pol) (l : List Pol) (k : Nat) : chainTo p0 l (k + 1) = chainTo p0 l k ++ [chL (prevP p0 l k) (prevP p0 l (k + 1))] := by
  unfold chainTo
  rw [List.range_succ, List.map_append]
  rfl
theorem chainTo_len (p0 : Pol) (l : List Pol) (k : Nat) : (chainTo p0 l k).length = k := by unfold chainTo; simp
theorem prevP_mem (p0 : Pol) (l : List Pol) (k : Nat) : prevP p0 l k ∈ p0 :: l := by
  unfold prevP
  rw [List.getD_eq_getElem?_getD]
  cases h : (p0 :: l)[k]? with
  | none => exact List.mem_cons_self
  | some x => exact List.mem_of_getElem? h
theorem prevP_at (p0 : Pol) (l : List Pol) {k : Nat} (h : k < l.length) : prevP p0 l (k + 1) = rd_T28 l (k : Int) := by
  unfold prevP rd_T28
  simp [List.getD_eq_getElem?_getD, h]
abbrev kCs : Kd (List Chg) := Kd.slice 53 k53
def LcV (ls : List (List Chg)) (v : Value) (W : World) : Prop := ∃ A c, v = .slice A ls.length c ∧ ls.length ≤ c ∧ Kd.C kCs W A ls.length ls
theorem info47l : (Try.prog.info? 47).map (fun i => (i.zero, i.size, i.bytes)) = some (some (.slice none 0 0), 1, 24) := by kernel_rfl
def OkA (x : Pol) : Prop := OkP x ∧ x.f1.length * (x.f3.length * x.f0.length) ≤ 65536
theorem OkA.two {x y : Pol} (h : OkA x) (k : OkA y) : okD x y = true := okD_iff.2 ⟨h.1, k.1, h.2, k.2⟩
theorem r_away {α : Type} {d : Kd α} {e : Nat} {W W' : World} {B b : Nat} {v : Value} {l : List α} (h : Kd.R d e W B (fun _ => True) v l) (hb : b < B) (ho : ∀ i, i ≠ b → W'.heap[i]? = W.heap[i]?) : Kd.R d e W' B (fun _ => True) v l :=
  Kd.R_mono (Kd.R_step (Kd.R_bound h) (fun k hk _ => ho k (by have := hk.2.1; omega))) (fun _ _ => trivial)
theorem polsz {W : World} {q : Pol} {C : Array Value} (h : k28.K W q C.toList) : C.size = 11 := by
  have h2 := k28.K_len h
  rw [Array.length_toList] at h2
  exact h2
set_option maxRecDepth 100000 in
set_option maxHeartbeats 8000000 in
theorem chain_calls (p0 : Pol) (l : List Pol) (C0 : Array Value) (Aa : Option Addr) (ca : Nat) (w : World) (hp : k28.K w p0 C0.toList) (hl : Kd.C k28 w Aa l.length l) (hll : l.length ≤ 1048576) (hok : ∀ x ∈ p0 :: l, OkA x) :
    Calls Try.prog 42 #[.agg C0, .slice Aa l.length ca] w fun e W => ∃ v, e = .returned v ∧ LcV (chainTo p0 l l.length) v W ∧ Below w.heap.size w W := by
  have HP := Lib.hid (show k28.K w (prevP p0 l 0) C0.toList from hp)
  have HL := Lib.hid hl
  have HOK := Lib.hid hok
  obtain ⟨n, hn⟩ : ∃ n, n = l.length := ⟨_, rfl⟩
  rw [← hn] at HL ⊢
  have HN := Lib.hid hn
  have hnl : n ≤ 1048576 := by omega
  obtain ⟨CA, hCA⟩ : ∃ C, C = C0 := ⟨_, rfl⟩
  clear hp hl hok hn hll
  go_enter Try.func42, Try.ntmps42
  go_upto_region 1 with (first | ((with_reducible refine gate_dst (N := 2) rfl ?_); refine box_event ?hg (N := 2) ?hd (cs := C0) (t := 28) ?hr ?_; (case hd => rfl); (case hg => rfl); (case hr => first | (go_simp; done) | (go_simp; rfl)); intro b2 hg_ w1 hb2 hB1; go_must (have H0 := Lib.hid (show w.heap.size ≤ b2 by omega); have HB1 := Lib.hid hB1; have KB1 := Lib.hid hb2; clear hb2 hB1); clear hg_))
  have HW1 := Lib.hid (blk_lt KB1.out)
  clear hCA
  go_wp2_with fail
  go_loopw [5, 10] (fun v i wr => ∃ (k : Nat) (T : Option Addr) (u : Nat) (Ck : Array Value), k ≤ n ∧ i = .int .i64 (k : Nat) ∧ v = .slice T k u ∧ Hid (wr.heap[b2]? = some (Obj.cells Ck 28 (0, 0))) ∧ Hid (k28.K w (prevP p0 l k) Ck.toList) ∧ Hid (Kd.R kCs 47 wr w1.heap.size (fun _ => True) (.slice T k u) (chainTo p0 l k)) ∧ Hid (Below w.heap.size w wr) ∧ Hid (w1.heap.size ≤ wr.heap.size)) (fun _ i _ => n - (intOf i).toNat)
  case atStart => exact ⟨0, none, 0, C0, Nat.zero_le _, rfl, rfl, KB1, HP, Lib.hid (Kd.R_nil _ _ _ _ _), HB1, Lib.hid (Nat.le_refl _)⟩
  case round =>
    obtain ⟨k, T, u, Ck, hk, rfl, rfl, KB, KK, HR, HB, HS⟩ := hrel
    clear HP KB1
    by_cases hlt : k < n
    · obtain ⟨ad, X0, y0, X1, y1, X2, y2, X3, y3, X4, y4, X5, y5, X6, y6, X7, y7, X8, y8, X9, y9, X10, y10, eA, c0, c1, c2, c3, c4, c5, c6, c7, c8, c9, c10, l0, g0, l1, g1, l2, g2, l3, g3, l4, g4, l5, g5, l6, g6, l7, g7, l8, g8, l9, g9, l10, g10⟩ := at_T28 HL.out (k : Int) (by omega) (by omega)
      have hxe := prevP_at p0 l (k := k) (by rw [← HN.out]; exact hlt)
      obtain ⟨x, hx⟩ : ∃ x, x = rd_T28 l (k : Int) := ⟨_, rfl⟩
      rw [← hx] at hxe
      have HXE := Lib.hid hxe
      rw [← hx, Int.toNat_natCast] at c0 c1 c2 c3 c4 c5 c6 c7 c8 c9 c10
      rw [← hx] at l0 g0 l1 g1 l2 g2 l3 g3 l4 g4 l5 g5 l6 g6 l7 g7 l8 g8 l9 g9 l10 g10
      replace c0 := pw_cell_below HB.out c0
      replace c1 := pw_cell_below HB.out c1
      replace c2 := pw_cell_below HB.out c2
      replace c3 := pw_cell_below HB.out c3
      replace c4 := pw_cell_below HB.out c4
      replace c5 := pw_cell_below HB.out c5
      replace c6 := pw_cell_below HB.out c6
      replace c7 := pw_cell_below HB.out c7
      replace c8 := pw_cell_below HB.out c8
      replace c9 := pw_cell_below HB.out c9
      replace c10 := pw_cell_below HB.out c10
      have HX := Lib.hid (show k28.K w x (#[.slice X0 x.f0.length y0, .slice X1 x.f1.length y1, .slice X2 x.f2.length y2, .slice X3 x.f3.length y3, .slice X4 x.f4.length y4, .slice X5 x.f5.length y5, .slice X6 x.f6.length y6, .slice X7 x.f7.length y7, .slice X8 x.f8.length y8, .slice X9 x.f9.length y9, .slice X10 x.f10.length y10] : Array Value).toList from k28_mk w x l0 g0 l1 g1 l2 g2 l3 g3 l4 g4 l5 g5 l6 g6 l7 g7 l8 g8 l9 g9 l10 g10)
      subst eA
      have hox : OkA x := HOK.out x (by rw [← hxe]; exact prevP_mem p0 l (k + 1))
      have HDD := Lib.hid ((HOK.out _ (prevP_mem p0 l k)).two hox)
      have i0 : (0 : Int) ≤ (k : Int) := by omega
      have i1 : (k : Int) < (n : Int) := by omega
      clear hx hxe hox l0 g0 l1 g1 l2 g2 l3 g3 l4 g4 l5 g5 l6 g6 l7 g7 l8 g8 l9 g9 l10 g10
      go_upto_region 5 with (first | ((with_reducible refine gate_dst (N := 7) rfl ?_); refine box_event ?hg (N := 7) ?hd (cs := #[.slice none 0 0, .slice none 0 0, .slice none 0 0, .slice none 0 0, .slice none 0 0, .slice none 0 0, .slice none 0 0, .slice none 0 0, .slice none 0 0, .slice none 0 0, .slice none 0 0]) (t := 28) ?hr ?_; (case hd => rfl); (case hg => rfl); (case hr => first | (go_simp; done) | (go_simp; rfl)); intro bx hg_ wx hbx hBx; go_must (have hle : wr.heap.size ≤ bx := (by omega)); clear hg_) | ((with_reducible refine gate_ (.store 28 (.tmp 7) (.tmp 13)) rfl ?_); go_must (refine bstore (t := 28) (p := 7) (v := .tmp 13) rfl rfl rfl bx _ #[.slice X0 x.f0.length y0, .slice X1 x.f1.length y1, .slice X2 x.f2.length y2, .slice X3 x.f3.length y3, .slice X4 x.f4.length y4, .slice X5 x.f5.length y5, .slice X6 x.f6.length y6, .slice X7 x.f7.length y7, .slice X8 x.f8.length y8, .slice X9 x.f9.length y9, .slice X10 x.f10.length y10] (.agg #[.slice X0 x.f0.length y0, .slice X1 x.f1.length y1, .slice X2 x.f2.length y2, .slice X3 x.f3.length y3, .slice X4 x.f4.length y4, .slice X5 x.f5.length y5, .slice X6 x.f6.length y6, .slice X7 x.f7.length y7, .slice X8 x.f8.length y8, .slice X9 x.f9.length y9, .slice X10 x.f10.length y10]) rfl rfl rfl hbx (by kernel_rfl) (by simp) (fun q hq => k28.K_one HX.out q hq) ?_); intro ws hbs hoth hsz hbel; have hbw := hBx.trans (hbel _ hle); have KX := Lib.hid hbs; have KB2 := Lib.hid (blk_below KB.out hbw); have HR2 := Lib.hid (Kd.R_below HR.out hbw); have HBS := Lib.hid (HB.out.trans (hbw.mono HB.out.size)); have HS2 := Lib.hid (Nat.le_trans HS.out hbw.size); clear hbx hbs hoth hsz hbel hBx hle hbw))
      clear KB HR HB HS c0 c1 c2 c3 c4 c5 c6 c7 c8 c9 c10
      go_upto_region 6 with (first | ((with_reducible refine gate_ (.load 28 (.tmp 2)) rfl ?_); go_must (refine wpList_load_row rfl 28 (.tmp 2) rfl b2 rfl _ _ _ _ KB2.out Try.underlying28 rfl (pol_size KK.out) ?_)) | ((with_reducible refine gate_ (.load 28 (.tmp 7)) rfl ?_); go_must (refine wpList_load_row rfl 28 (.tmp 7) rfl bx rfl _ _ _ _ KX.out Try.underlying28 rfl (pol_size HX.out) ?_)) | (go_at_call 35; go_must (refine (list_k (prevP p0 l k) x Ck #[.slice X0 x.f0.length y0, .slice X1 x.f1.length y1, .slice X2 x.f2.length y2, .slice X3 x.f3.length y3, .slice X4 x.f4.length y4, .slice X5 x.f5.length y5, .slice X6 x.f6.length y6, .slice X7 x.f7.length y7, .slice X8 x.f8.length y8, .slice X9 x.f9.length y9, .slice X10 x.f10.length y10] _ (k28.K_below HBS.out KK.out) (k28.K_below HBS.out HX.out) HDD.out).mono ?_); rintro e wl ⟨vL, rfl, hR, hb⟩; obtain ⟨Aq, cq, rfl⟩ := Kd.R_slice hR; have HRL := Lib.hid hR; have KX3 := Lib.hid (blk_below KX.out hb); have KB3 := Lib.hid (blk_below KB2.out hb); have HR3 := Lib.hid (Kd.R_below HR2.out hb); have HB3 := Lib.hid (HBS.out.trans (hb.mono HBS.out.size)); have HS3 := Lib.hid (Nat.le_trans HS2.out hb.size); clear hR hb) | ((with_reducible refine gate_builtin (b := .append) (xs := #[.tmp 14, .tmp 18]) rfl ?_); at_builtin; go_must (refine Kd.R_append kCs (w0 := wl) w1.heap.size rfl (.tmp 14) (.tmp 18) 56 47 (.slice none 0 0) 24 rfl Try.underlying56 info47l rfl (by decide) (by omega) (.slice T k u) (chainTo p0 l k) (chL (prevP p0 l k) x) [.slice Aq (chL (prevP p0 l k) x).length cq] (fun _ => True) (fun k_ => ws.heap.size ≤ k_) rfl rfl ?aP ?aK ?aF ?aO ?aB ?aS ?aL ?_); (case aP => exact ⟨_, rfl, Kd.R_lower (Kd.R_mono (Kd.R_bound HRL.out) (fun _ hk_ => hk_.2.1)) HS2.out⟩); (case aK => exact (fun k_ hk_ => ⟨trivial, fun e_ => absurd (Kd.R_lt HR2.out k_ e_.symm) (Nat.not_lt.2 hk_)⟩)); (case aF => exact (fun _ _ => trivial)); (case aO => exact HR3.out); (case aB => exact Below.refl _ _); (case aS => exact HS3.out); (case aL => (rw [chainTo_len]; omega)); intro v1 wa ho hb hg hat; rw [← HXE.out, ← chainTo_succ] at ho; obtain ⟨T1, u1, e1_⟩ := Kd.R_slice ho; rw [chainTo_len] at e1_; subst e1_; have HRA := Lib.hid ho; have HBA := Lib.hid (HB3.out.trans (hb.mono (Nat.le_trans H0.out (Nat.le_of_lt HW1.out)))); have KXA := Lib.hid ((hg.block bx (blk_lt KX3.out) (fun e_ => Kd.R_ne HR3.out KX3.out (by decide) e_)).trans KX3.out); have KBA := Lib.hid ((hg.block b2 (blk_lt KB3.out) (fun e_ => Kd.R_ne HR3.out KB3.out (by decide) e_)).trans KB3.out); have HSA := Lib.hid (Nat.le_trans HS3.out hg.size); clear ho hb hg hat))
      clear KB2 HR2 HBS HS2 HRL KX3 KB3 HR3 HB3 HS3 KX HDD
      go_wp2_with (first | ((with_reducible refine gate_ (.load 28 (.tmp 7)) rfl ?_); go_must (refine wpList_load_row rfl 28 (.tmp 7) rfl bx rfl _ _ _ _ KXA.out Try.underlying28 rfl (pol_size HX.out) ?_)) | ((with_reducible refine gate_ (.store 28 (.tmp 2) (.tmp 20)) rfl ?_); go_must (refine bstore (t := 28) (p := 2) (v := .tmp 20) rfl rfl rfl b2 _ #[.slice X0 x.f0.length y0, .slice X1 x.f1.length y1, .slice X2 x.f2.length y2, .slice X3 x.f3.length y3, .slice X4 x.f4.length y4, .slice X5 x.f5.length y5, .slice X6 x.f6.length y6, .slice X7 x.f7.length y7, .slice X8 x.f8.length y8, .slice X9 x.f9.length y9, .slice X10 x.f10.length y10] (.agg #[.slice X0 x.f0.length y0, .slice X1 x.f1.length y1, .slice X2 x.f2.length y2, .slice X3 x.f3.length y3, .slice X4 x.f4.length y4, .slice X5 x.f5.length y5, .slice X6 x.f6.length y6, .slice X7 x.f7.length y7, .slice X8 x.f8.length y8, .slice X9 x.f9.length y9, .slice X10 x.f10.length y10]) rfl rfl rfl KBA.out (by kernel_rfl) (polsz KK.out) (fun q hq => k28.K_one HX.out q hq) ?_); intro wz hbz hoth hsz hbel; have KBZ := Lib.hid hbz; have HRZ := Lib.hid (r_away HRA.out HW1.out hoth); have HBZ := Lib.hid (HBA.out.trans (hbel _ H0.out)); have HSZ := Lib.hid (show w1.heap.size ≤ wz.heap.size by rw [hsz]; exact HSA.out); clear hbz hoth hsz hbel))
      go_roundw
      case rel => exact ⟨k + 1, T1, u1, _, hlt, by go_num, rfl, KBZ, Lib.hid (by rw [HXE.out]; exact HX.out), HRZ, HBZ, HSZ⟩
      case measure => simp [intOf]; omega
    · obtain rfl : n = k := by omega
      obtain ⟨e1, e2, e3⟩ := Kd.R_reads' HR.out
      have E1 := Lib.hid e1
      have E2 := Lib.hid e2
      have E3 := Lib.hid e3
      clear e1 e2 e3
      go_wp2_with fail
      go_ret
      exact ⟨_, rfl, ⟨T, u, congrArg (fun z => Value.slice T z u) E1.out, Nat.le_trans (Nat.le_of_eq E1.out.symm) E2.out, E3.out⟩, HB.out⟩
end Go.Proofs.Yteefneemmdfncaa.M
