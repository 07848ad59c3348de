import Derived.Test.YtnkdcekddhmjnaaRr
import Derived.Test.YtnkdcekddhmjnaaRv
import Derived.Test.YtnkdcekddhmjnaaUn
import Derived.Test.YtnkdcekddhmjnaaRoC
import Derived.Test.YtnkdcekddhmjnaaSz
/- MeanRelation as the row asks for it: walked. Conditions: the row's. -/
namespace Go.Proofs.Ytnkdcekddhmjnaa.F
open Go.RowKit Go.Proofs.YtnkdcekddhmjnaaW.Raw Go.Proofs.YtnkdcekddhmjnaaW.PrintWords Go.Proofs.YtnkdcekddhmjnaaW.PrintLast Go.Proofs.YtnkdcekddhmjnaaW.PrintAll Go.Proofs.Ytnkdcekddhmjnaa.M
set_option linter.unusedVariables false
set_option linter.unusedSimpArgs false
theorem vast_k (p : Pol) (C0 : Array Value) (w : World) (hk : k34.K w p C0.toList) (hs : Sz p) :
    ∃ b, (b = false → p.f1.length * (p.f3.length * p.f0.length) ≤ 65536) ∧ Calls Try.prog 26 #[.agg C0] w fun e w' => e = .returned (.bool b) ∧ Below w.heap.size w w' := by
  obtain ⟨b, hb, hc⟩ := vast_f p hs.l1 hs.l3 hs.l0
  obtain ⟨A0, c0, A1, c1, A2, c2, A3, c3, A4, c4, A5, c5, A6, c6, A7, c7, A8, c8, A9, c9, A10, c10, e_, l0, g0, l1, g1, l2, g2, l3, g3, l4, g4, l5, g5, l6, g6, l7, g7, l8, g8, l9, g9, l10, g10⟩ := k34_open hk
  obtain rfl : C0 = #[.slice A0 p.f0.length c0, .slice A1 p.f1.length c1, .slice A2 p.f2.length c2, .slice A3 p.f3.length c3, .slice A4 p.f4.length c4, .slice A5 p.f5.length c5, .slice A6 p.f6.length c6, .slice A7 p.f7.length c7, .slice A8 p.f8.length c8, .slice A9 p.f9.length c9, .slice A10 p.f10.length c10] := by cases C0; simpa using e_
  clear e_
  exact ⟨b, hc, gatehouselaw08_vast.calls A0 c0 p.f0 A1 c1 p.f1 A2 c2 p.f2 A3 c3 p.f3 A4 c4 p.f4 A5 c5 p.f5 A6 c6 p.f6 A7 c7 p.f7 A8 c8 p.f8 A9 c9 p.f9 A10 c10 p.f10 _ w g0 l0 g1 l1 g2 l2 g3 l3 g4 l4 g5 l5 g6 l6 g7 l7 g8 l8 g9 l9 g10 l10 hb⟩
theorem cf_size {W : World} {q : Pol} {CF : Array Value} (h : k34.K W q CF.toList) : CF.size = 11 := by
  have h2 := k34.K_len h
  rw [Array.length_toList] at h2
  exact h2
theorem room_one {W W2 W3 : World} {B : Nat} {p q : Pol} {CG CF : Array Value} {vl : Value} {ls : List (List ByteArray)} (kg : k34.K W p CG.toList) (kf : k34.K W2 q CF.toList) (kl : Kd.R (Kd.slice 9 Kd.string) 25 W3 B (fun _ => True) vl ls) : ∀ u ∈ (CG ++ CF ++ #[vl]).toList, u.oneCell' = true := by
  intro u hu
  simp only [Array.toList_append, List.mem_append, List.mem_singleton] at hu
  rcases hu with (hu | hu) | hu
  · exact k34.K_one kg u hu
  · exact k34.K_one kf u hu
  · obtain ⟨A, c, rfl⟩ := Kd.R_slice kl
    subst hu
    rfl
abbrev tM (b : UInt8) : Tri := ⟨⟨#[35, b]⟩, ⟨#[]⟩, ⟨#[]⟩⟩
/-- What the law's first half made: it stands in every later world. -/
structure Rw (p : Pol) (rl : List Tri) (w0 : World) (b1 b5 b6 : Nat) (cp cg CF : Array Value) (vl : Value) (RR : Array Value) (AW : Option Addr) (B : Nat) (W : World) : Prop where
  h1 : W.heap[b1]? = some (Obj.cells cp 34 (0, 0))
  h5 : W.heap[b5]? = some (Obj.cells RR 39 (0, 0))
  h6 : W.heap[b6]? = some (Obj.cells cg 34 (0, 0))
  kp : k34.K W p cp.toList
  kg : k34.K W p cg.toList
  kf : k34.K W (fullP p) CF.toList
  kl : Kd.R (Kd.slice 9 Kd.string) 25 W B (fun _ => True) vl (actsM p.f9)
  hw : Kd.C k36 W AW rl.length rl
  bel : Below w0.heap.size w0 W
theorem Rw.below {p : Pol} {rl : List Tri} {w0 : World} {b1 b5 b6 : Nat} {cp cg CF : Array Value} {vl : Value} {RR : Array Value} {AW : Option Addr} {B : Nat} {W W' : World} (h : Rw p rl w0 b1 b5 b6 cp cg CF vl RR AW B W) (hb : Below W.heap.size W W') : Rw p rl w0 b1 b5 b6 cp cg CF vl RR AW B W' :=
  ⟨blk_below h.h1 hb, blk_below h.h5 hb, blk_below h.h6 hb, k34.K_below hb h.kp, k34.K_below hb h.kg, k34.K_below hb h.kf, Kd.R_below h.kl hb, Kd.C_below h.hw hb, h.bel.trans (hb.mono h.bel.size)⟩
/-- The three answers, each in a block of its own. -/
structure Tq (V : World) (S1 S2 S3 : Nat) (va vb vc : Value) (la lb lc : List Tri) (W : World) : Prop where
  q : Below V.heap.size V W
  a : Kd.R k36 36 W V.heap.size (fun k => k < S1) va la
  b : Kd.R k36 36 W S1 (fun k => k < S2) vb lb
  c : Kd.R k36 36 W S2 (fun k => k < S3) vc lc
  s : S3 ≤ W.heap.size
theorem Tq.below {V : World} {S1 S2 S3 : Nat} {va vb vc : Value} {la lb lc : List Tri} {W W' : World} (h : Tq V S1 S2 S3 va vb vc la lb lc W) (hb : Below W.heap.size W W') : Tq V S1 S2 S3 va vb vc la lb lc W' :=
  ⟨h.q.trans (hb.mono h.q.size), Kd.R_below h.a hb, Kd.R_below h.b hb, Kd.R_below h.c hb, Nat.le_trans h.s hb.size⟩
/-- A row whose block is not the one that was written. -/
theorem r_far {W W' : World} {B : Nat} {ok : Nat → Prop} {v : Value} {l : List Tri} (h : Kd.R k36 36 W B ok v l) {row : Option Nat} (hg : W.grownBy W' row) (hr : ∀ k, row = some k → k < B ∨ ¬ ok k) : Kd.R k36 36 W' B ok v l :=
  Kd.R_mono (Kd.R_step (Kd.R_bound h) (fun k hk hlt => hg.block k hlt (fun e => by
    rcases hr k e.symm with h1 | h1
    · have := hk.2.1
      omega
    · exact h1 hk.1))) (fun _ hk => hk.1)
theorem r_told {W : World} {B S : Nat} {v : Value} {l : List Tri} (h : Kd.R k36 36 W B (fun _ => True) v l) (hS : S = W.heap.size) : Kd.R k36 36 W B (fun k => k < S) v l := Kd.R_mono (Kd.R_bound h) (fun k hk => by rw [hS]; exact hk.2.2.1)
def fl (b : UInt8) (k : Nat) (l : List Tri) : List Tri := List.replicate k (tM b) ++ l.drop k
theorem fl_len (b : UInt8) (k : Nat) (l : List Tri) (h : k ≤ l.length) : (fl b k l).length = l.length := by
  unfold fl
  rw [List.length_append, List.length_replicate, List.length_drop]
  omega
theorem fl_set (b : UInt8) (k : Nat) (l : List Tri) (h : k < l.length) : (fl b k l).set k (tM b) = fl b (k + 1) l := by
  unfold fl
  rw [List.drop_eq_getElem_cons h, List.set_append_right _ _ (by simp), List.length_replicate, Nat.sub_self, List.set_cons_zero, List.replicate_succ', List.append_assoc]
  rfl
theorem fl_all (b : UInt8) (l : List Tri) : fl b l.length l = List.replicate l.length (tM b) := by
  unfold fl
  rw [List.drop_length, List.append_nil]
theorem rd_rep {n k : Nat} (m : List Tri) (b : UInt8) (h : k < n) : (rd_T36 (List.replicate n (tM b) ++ m) (k : Int)).f0 = ⟨#[35, b]⟩ := by
  simp [rd_T36, List.getD_eq_getElem?_getD, List.getElem?_append_left (show k < (List.replicate n (tM b)).length by simpa using h), h]
theorem tight {W : World} {B : Nat} {ok ok2 : Nat → Prop} {v : Value} {l : List Tri} (h : Kd.R k36 36 W B ok v l) (h2 : ∀ j, v.ownBlock = some j → ok2 j) : Kd.R k36 36 W B ok2 v l := Kd.R_mono (Kd.R_tight rfl h) (fun k hk => h2 k hk.symm)
/-- An element more behind what may be the first answer's own row. -/
theorem more_d {V wr wn : World} {S1 S2 S3 n m ca t : Nat} {Aa T : Option Addr} {vb vc v1 : Value} {la lb lc ld : List Tri} (h01 : V.heap.size ≤ S1) (hS12 : S1 ≤ S2) (hS23 : S2 ≤ S3) (hT : Tq V S1 S2 S3 (.slice Aa n ca) vb vc la lb lc wr) (hn : la.length = n) (hm : (la ++ ld).length = m)
    (hD : (T = Aa ∧ t = ca) ∨ ∀ j, (Value.slice T m t).ownBlock = some j → S3 ≤ j) (hok : ∀ j, (Value.slice T m t).ownBlock = some j → j < S1 ∨ S3 ≤ j)
    (hR : Kd.R k36 36 wn V.heap.size (fun k => k < S1 ∨ S3 ≤ k) v1 (la ++ ld ++ [tM 50])) (hb : Below V.heap.size wr wn)
    (hc : (∃ g c, Value.slice T m t = .slice (some ⟨g, 0, none⟩) m c ∧ v1 = .slice (some ⟨g, 0, none⟩) (m + 1) c ∧ wr.grownBy wn (some g)) ∨ ((∃ b, v1.ownBlock = some b ∧ wr.heap.size ≤ b) ∧ wr.grownBy wn none)) :
    ∃ T1 t1, v1 = .slice T1 (m + 1) t1 ∧ Tq V S1 S2 S3 (.slice Aa n ca) vb vc la lb lc wn ∧ ((T1 = Aa ∧ t1 = ca) ∨ ∀ j, (Value.slice T1 (m + 1) t1).ownBlock = some j → S3 ≤ j) := by
  have hs3 := hT.s
  rcases hc with ⟨g, c, e, rfl, hg⟩ | ⟨⟨b, hb1, hb2⟩, hg⟩
  · injection e with e1 e2 e3
    subst e1
    subst e3
    refine ⟨_, _, rfl, ?_, hD.imp (fun h => h) (fun h j hj => h j hj)⟩
    rcases hD with ⟨e1, e2⟩ | h3
    · subst e1
      subst e2
      have hg1 : g < S1 := hT.a.1 g rfl
      have h5 := Kd.R_take hR (m := n) (by simp; omega)
      rw [List.append_assoc, ← hn, List.take_left, hn] at h5
      exact ⟨hT.q.trans hb, tight h5 (fun j hj => show j < S1 from (by have hj2 : g = j := (by simpa [Value.ownBlock] using hj); omega)), r_far hT.b hg (fun j hj => .inl (by injection hj with hj; omega)), r_far hT.c hg (fun j hj => .inl (by injection hj with hj; omega)), Nat.le_trans hs3 hg.size⟩
    · have hg3 : S3 ≤ g := h3 g rfl
      exact ⟨hT.q.trans hb, r_far hT.a hg (fun j hj => .inr (fun h9 => absurd (show j < S1 from h9) (by injection hj with hj; omega))), r_far hT.b hg (fun j hj => .inr (fun h9 => absurd (show j < S2 from h9) (by injection hj with hj; omega))), r_far hT.c hg (fun j hj => .inr (fun h9 => absurd (show j < S3 from h9) (by injection hj with hj; omega))), Nat.le_trans hs3 hg.size⟩
  · obtain ⟨T1, t1, rfl⟩ := Kd.R_slice hR
    have hlen : (la ++ ld ++ [tM 50]).length = m + 1 := by rw [List.length_append, hm]; rfl
    rw [hlen] at hb1 ⊢
    exact ⟨T1, t1, rfl, ⟨hT.q.trans hb, r_far hT.a hg (fun j hj => by cases hj), r_far hT.b hg (fun j hj => by cases hj), r_far hT.c hg (fun j hj => by cases hj), Nat.le_trans hs3 hg.size⟩, .inr (fun j hj => by
      rw [hb1] at hj
      injection hj with hj
      omega)⟩
theorem cs_put {W : World} {B : Nat} {b : UInt8} {cs : List Value} (h : cs.length = 3) : k36.M W B (fun _ => False) (tM b) (cs.take 0 ++ [.string ⟨#[35, b]⟩, .string ⟨#[]⟩, .string ⟨#[]⟩] ++ cs.drop (0 + 3)) := by
  rw [List.take_zero, List.nil_append, List.drop_of_length_le (by omega), List.append_nil]
  exact k36_mkM _ _ _ (tM b)
set_option maxRecDepth 100000 in
set_option maxHeartbeats 8000000 in
theorem MeanRelation.walk (x0 : S34) (c0 : Array Value) (w : World) (hk0 : Kd.K k34 w x0 c0.toList) (hg0 : g34 x0) (hb : b34 x0 ≤ 1048576) :
    Calls Go.Proofs.Try.prog 8 #[.agg c0] w fun e w' => e = .returned (.bool true) ∧ Below w.heap.size w w' := by
  have hs := sz_of x0 (by omega)
  obtain ⟨C0, rfl⟩ : ∃ C, C = c0 := ⟨_, rfl⟩
  obtain ⟨p, rfl⟩ : ∃ p, p = x0 := ⟨_, rfl⟩
  have HK := Lib.hid hk0
  obtain ⟨A0, c0, A1, c1, A2, c2, A3, c3, A4, c4, A5, c5, A6, c6, A7, c7, A8, c8, A9, c9, A10, c10, e_, l0, g0, l1, g1, l2, g2, l3, g3, l4, g4, l5, g5, l6, g6, l7, g7, l8, g8, l9, g9, l10, g10⟩ := k34_open hk0
  obtain rfl : C0 = #[.slice A0 p.f0.length c0, .slice A1 p.f1.length c1, .slice A2 p.f2.length c2, .slice A3 p.f3.length c3, .slice A4 p.f4.length c4, .slice A5 p.f5.length c5, .slice A6 p.f6.length c6, .slice A7 p.f7.length c7, .slice A8 p.f8.length c8, .slice A9 p.f9.length c9, .slice A10 p.f10.length c10] := by cases C0; simpa using e_
  clear e_
  clear hk0 g0 g1 g2 g3 g4 g5 g6 g7 g8 g9 g10 hg0 hb
  go_enter Try.func8, Try.ntmps8
  go_upto_region 1 with (first | ((with_reducible refine gate_dst (N := 1) rfl ?_); refine box_event ?hg (N := 1) ?hd (cs := #[.slice A0 p.f0.length c0, .slice A1 p.f1.length c1, .slice A2 p.f2.length c2, .slice A3 p.f3.length c3, .slice A4 p.f4.length c4, .slice A5 p.f5.length c5, .slice A6 p.f6.length c6, .slice A7 p.f7.length c7, .slice A8 p.f8.length c8, .slice A9 p.f9.length c9, .slice A10 p.f10.length c10]) (t := 34) ?hr ?_; (case hd => rfl); (case hg => rfl); (case hr => first | (go_simp; done) | (go_simp; rfl)); intro b1 hg_ w1 hb1 hB1; go_must (skip); clear hg_))
  obtain ⟨vb, hvb, hv⟩ := vast_k p _ w1 (k34.K_below hB1 HK.out) hs
  have HV := Lib.hid hv
  have HVB := Lib.hid hvb
  have K1 := Lib.hid hb1
  have BW1 := Lib.hid hB1
  clear hv hvb hb1 hB1
  go_upto_region 2 with (first | ((with_reducible refine gate_ (.load 34 (.tmp 1)) rfl ?_); go_must (refine wpList_load_row rfl 34 (.tmp 1) rfl b1 rfl _ _ _ _ K1.out Try.underlying34 rfl (by kernel_rfl) ?_)) | (go_at_call 26; go_must (refine HV.out.mono ?_); rintro e w2 ⟨rfl, hb⟩; have BW2 := Lib.hid (BW1.out.trans (hb.mono BW1.out.size)); have K2 := Lib.hid (blk_below K1.out hb); clear hb))
  clear HV K1 BW1
  cases vb with
  | true =>
    go_wp2_with fail
    go_ret
    exact ⟨rfl, BW2.out⟩
  | false =>
    have hcap := HVB.out rfl
    clear HVB
    go_upto_region 5 with (first | ((with_reducible refine gate_ (.load 34 (.tmp 1)) rfl ?_); go_must (refine wpList_load_row rfl 34 (.tmp 1) rfl b1 rfl _ _ _ _ K2.out Try.underlying34 rfl (by kernel_rfl) ?_)) | (go_at_call 27; go_must (refine (refRelation_calls p _ _ (k34.K_below BW2.out HK.out) hs hcap).mono ?_); rintro e w3 ⟨v, rfl, hR, hb⟩; obtain ⟨rl, hrl⟩ : ∃ l, l = relL p := ⟨_, rfl⟩; rw [← hrl] at hR; obtain ⟨AW, cW, e3⟩ := Kd.R_slice hR; subst e3; have RW := Lib.hid hR; have HRL := Lib.hid hrl; have BW3 := Lib.hid (BW2.out.trans (hb.mono BW2.out.size)); have K3 := Lib.hid (blk_below K2.out hb); clear hb hR hrl))
    clear K2 BW2
    go_upto_region 6 with (first | ((with_reducible refine gate_ (.load 34 (.tmp 1)) rfl ?_); go_must (refine wpList_load_row rfl 34 (.tmp 1) rfl b1 rfl _ _ _ _ K3.out Try.underlying34 rfl (by kernel_rfl) ?_)) | (go_at_call 18; go_must (refine (roomy_calls p _ _ ?kk hs).mono ?_); go_must (case kk => exact k34.K_below BW3.out HK.out); rintro e w4 ⟨CG, CF, vl, he, kg, kf, kl, hbl⟩; obtain ⟨RR, hRR⟩ : ∃ R, R = CG ++ CF ++ #[vl] := ⟨_, rfl⟩; rw [← hRR] at he; subst he; have HRR := Lib.hid hRR; clear hRR; have KG := Lib.hid kg; have KF := Lib.hid kf; have KL := Lib.hid kl; clear kg kf kl) | ((with_reducible refine gate_dst (N := 5) rfl ?_); refine box_event ?hg (N := 5) ?hd (cs := #[.slice none 0 0, .slice none 0 0, .slice none 0 0, .slice none 0 0, .slice none 0 0, .slice none 0 0, .slice none 0 0, .slice none 0 0, .slice none 0 0, .slice none 0 0, .slice none 0 0, .slice none 0 0, .slice none 0 0, .slice none 0 0, .slice none 0 0, .slice none 0 0, .slice none 0 0, .slice none 0 0, .slice none 0 0, .slice none 0 0, .slice none 0 0, .slice none 0 0, .slice none 0 0]) (t := 39) ?hr ?_; (case hd => rfl); (case hg => rfl); (case hr => first | (go_simp; done) | (go_simp; rfl)); intro b5 hg_ w5 hb5 hB5; go_must (have hle5 : w4.heap.size ≤ b5 := (by omega)); clear hg_) | ((with_reducible refine gate_ (.store 39 (.tmp 5) (.tmp 22)) rfl ?_); go_must (refine bstore (t := 39) (p := 5) (v := .tmp 22) rfl rfl rfl b5 _ RR (.agg RR) rfl rfl rfl hb5 (by rw [size39r, HRR.out]; simp [cf_size KG.out, cf_size KF.out]) (by rw [HRR.out]; simp [cf_size KG.out, cf_size KF.out]) (by rw [HRR.out]; exact room_one KG.out KF.out KL.out) ?_); intro w6 hb6 hoth hsz hbel))
    have B46 : Below w4.heap.size w4 w6 := hB5.trans (hbel _ hle5)
    have BW4 : Below w.heap.size w w4 := BW3.out.trans (hbl.mono BW3.out.size)
    clear hb5 hB5 hoth hsz hbel
    obtain ⟨Y0, d0, Y1, d1, Y2, d2, Y3, d3, Y4, d4, Y5, d5, Y6, d6, Y7, d7, Y8, d8, Y9, d9, Y10, d10, eg_, -⟩ := k34_open KG.out
    obtain rfl : CG = #[.slice Y0 p.f0.length d0, .slice Y1 p.f1.length d1, .slice Y2 p.f2.length d2, .slice Y3 p.f3.length d3, .slice Y4 p.f4.length d4, .slice Y5 p.f5.length d5, .slice Y6 p.f6.length d6, .slice Y7 p.f7.length d7, .slice Y8 p.f8.length d8, .slice Y9 p.f9.length d9, .slice Y10 p.f10.length d10] := by cases CG; simpa using eg_
    clear eg_
    have HX := Lib.hid (show _ ∧ _ ∧ _ ∧ _ ∧ _ ∧ _ ∧ _ ∧ _ ∧ _ from ⟨blk_below (blk_below K3.out hbl) B46, hb6, k34.K_below (BW4.trans (B46.mono BW4.size)) HK.out, k34.K_below B46 KG.out, k34.K_below B46 KF.out, Kd.R_below KL.out B46, Kd.C_below (Kd.C_below (Kd.R_reads' RW.out).2.2 hbl) B46, (Kd.R_reads' RW.out).2.1, BW4.trans (B46.mono BW4.size)⟩)
    clear K3 BW3 KG KF KL RW hbl B46 BW4 hle5
    obtain ⟨q0, q1, q2, q3, q4, q5, q6, q7, q8, q9, q10⟩ : w6.cell? ⟨b5, 0, none⟩ = some (Value.slice Y0 p.f0.length d0) ∧ w6.cell? ⟨b5, 1, none⟩ = some (Value.slice Y1 p.f1.length d1) ∧ w6.cell? ⟨b5, 2, none⟩ = some (Value.slice Y2 p.f2.length d2) ∧ w6.cell? ⟨b5, 3, none⟩ = some (Value.slice Y3 p.f3.length d3) ∧ w6.cell? ⟨b5, 4, none⟩ = some (Value.slice Y4 p.f4.length d4) ∧ w6.cell? ⟨b5, 5, none⟩ = some (Value.slice Y5 p.f5.length d5) ∧ w6.cell? ⟨b5, 6, none⟩ = some (Value.slice Y6 p.f6.length d6) ∧ w6.cell? ⟨b5, 7, none⟩ = some (Value.slice Y7 p.f7.length d7) ∧ w6.cell? ⟨b5, 8, none⟩ = some (Value.slice Y8 p.f8.length d8) ∧ w6.cell? ⟨b5, 9, none⟩ = some (Value.slice Y9 p.f9.length d9) ∧ w6.cell? ⟨b5, 10, none⟩ = some (Value.slice Y10 p.f10.length d10) := ⟨(blk_cell HX.out.2.1 0).trans (by rw [HRR.out]; simp [Array.getElem?_append]), (blk_cell HX.out.2.1 1).trans (by rw [HRR.out]; simp [Array.getElem?_append]), (blk_cell HX.out.2.1 2).trans (by rw [HRR.out]; simp [Array.getElem?_append]), (blk_cell HX.out.2.1 3).trans (by rw [HRR.out]; simp [Array.getElem?_append]), (blk_cell HX.out.2.1 4).trans (by rw [HRR.out]; simp [Array.getElem?_append]), (blk_cell HX.out.2.1 5).trans (by rw [HRR.out]; simp [Array.getElem?_append]), (blk_cell HX.out.2.1 6).trans (by rw [HRR.out]; simp [Array.getElem?_append]), (blk_cell HX.out.2.1 7).trans (by rw [HRR.out]; simp [Array.getElem?_append]), (blk_cell HX.out.2.1 8).trans (by rw [HRR.out]; simp [Array.getElem?_append]), (blk_cell HX.out.2.1 9).trans (by rw [HRR.out]; simp [Array.getElem?_append]), (blk_cell HX.out.2.1 10).trans (by rw [HRR.out]; simp [Array.getElem?_append])⟩
    go_upto_region 7 with (first | ((with_reducible refine gate_dst (N := 6) rfl ?_); refine box_event ?hg (N := 6) ?hd (cs := #[.slice none 0 0, .slice none 0 0, .slice none 0 0, .slice none 0 0, .slice none 0 0, .slice none 0 0, .slice none 0 0, .slice none 0 0, .slice none 0 0, .slice none 0 0, .slice none 0 0]) (t := 34) ?hr ?_; (case hd => rfl); (case hg => rfl); (case hr => first | (go_simp; done) | (go_simp; rfl)); intro b6 hg_ w7 hb7 hB7; go_must (have hle7 : w6.heap.size ≤ b6 := (by omega)); clear hg_) | ((with_reducible refine gate_ (.store 34 (.tmp 6) (.tmp 24)) rfl ?_); go_must (refine bstore (t := 34) (p := 6) (v := .tmp 24) rfl rfl rfl b6 _ #[.slice Y0 p.f0.length d0, .slice Y1 p.f1.length d1, .slice Y2 p.f2.length d2, .slice Y3 p.f3.length d3, .slice Y4 p.f4.length d4, .slice Y5 p.f5.length d5, .slice Y6 p.f6.length d6, .slice Y7 p.f7.length d7, .slice Y8 p.f8.length d8, .slice Y9 p.f9.length d9, .slice Y10 p.f10.length d10] _ rfl rfl rfl hb7 (by kernel_rfl) (by simp) (by intro q hq; simp only [List.mem_cons, List.not_mem_nil, or_false] at hq; rcases hq with rfl | rfl | rfl | rfl | rfl | rfl | rfl | rfl | rfl | rfl | rfl <;> rfl) ?_); intro V hb8 hoth hsz hbel))
    have B67 : Below w6.heap.size w6 V := hB7.trans (hbel _ hle7)
    obtain ⟨x1, x2, x3, x4, x5, x6, x7, hcW, x9⟩ := HX.out
    have HQ := Lib.hid (Rw.mk (rl := rl) (AW := AW) (blk_below x1 B67) (blk_below x2 B67) hb8 (k34.K_below B67 x3) (k34.K_below B67 x4) (k34.K_below B67 x5) (Kd.R_below x6 B67) (Kd.C_below x7 B67) (x9.trans (B67.mono x9.size)))
    have HU := Lib.hid (show ∀ W, Below V.heap.size V W → Calls Try.prog 21 #[.agg RR, .agg #[.slice A0 p.f0.length c0, .slice A1 p.f1.length c1, .slice A2 p.f2.length c2, .slice A3 p.f3.length c3, .slice A4 p.f4.length c4, .slice A5 p.f5.length c5, .slice A6 p.f6.length c6, .slice A7 p.f7.length c7, .slice A8 p.f8.length c8, .slice A9 p.f9.length c9, .slice A10 p.f10.length c10]] W (fun e w' => e = .returned (.bool true) ∧ Below W.heap.size W w') from fun W hW => by
      have h := HQ.out.below hW
      rw [HRR.out]
      exact untouched_calls p (.slice Y0 p.f0.length d0) (.slice Y1 p.f1.length d1) (.slice Y2 p.f2.length d2) (.slice Y3 p.f3.length d3) (.slice Y4 p.f4.length d4) (.slice Y5 p.f5.length d5) (.slice Y6 p.f6.length d6) (.slice Y7 p.f7.length d7) (.slice Y8 p.f8.length d8) (.slice Y9 p.f9.length d9) (.slice Y10 p.f10.length d10) CF _ vl _ W h.kf h.kl h.kp hs)
    have HS5 := Lib.hid (show (Try.prog.info? 39).map (·.size) = some RR.size from by rw [size39r, HRR.out]; simp [cf_size HQ.out.kf])
    have hrl6 : rl.length ≤ 65536 := by rw [HRL.out]; exact Nat.le_trans (rel_le p) hcap
    clear hb7 hB7 hoth hsz hbel hb8 x1 x2 x3 x4 x5 x6 x7 x9 HX B67 hle7 q0 q1 q2 q3 q4 q5 q6 q7 q8 q9 q10 HRR
    go_upto_region 8 with (first | ((with_reducible refine gate_ (.load 34 (.tmp 6)) rfl ?_); go_must (refine wpList_load_row rfl 34 (.tmp 6) rfl b6 rfl _ _ _ _ HQ.out.h6 Try.underlying34 rfl (by kernel_rfl) ?_)) | (go_at_call 28; go_must (refine (relation_calls p _ _ (HQ.out.below (Below.refl _ _)).kg (okB_iff.1 hs.ok) (by omega)).mono ?_); rintro e Wa ⟨v, rfl, hN, hb⟩; rw [← HRL.out] at hN; have hR := R_of_N hN; clear hN; obtain ⟨Aa, ca, ea⟩ := Kd.R_slice hR; subst ea; obtain ⟨S1, hS1⟩ : ∃ S, S = Wa.heap.size := ⟨_, rfl⟩; have Qa := Lib.hid hb; have Ra := Lib.hid (r_told hR hS1); have h01 : V.heap.size ≤ S1 := (by rw [hS1]; exact hb.size); clear hR hb))
    go_upto_region 10 with (first | ((with_reducible refine gate_ (.load 39 (.tmp 5)) rfl ?_); go_must (refine wpList_load_row rfl 39 (.tmp 5) rfl b5 rfl _ _ _ _ (HQ.out.below Qa.out).h5 Try.underlying39 rfl HS5.out ?_)) | ((with_reducible refine gate_ (.load 34 (.tmp 1)) rfl ?_); go_must (refine wpList_load_row rfl 34 (.tmp 1) rfl b1 rfl _ _ _ _ (HQ.out.below Qa.out).h1 Try.underlying34 rfl (by kernel_rfl) ?_)) | (go_at_call 21; go_must (refine (HU.out _ Qa.out).mono ?_); rintro e Wa2 ⟨rfl, hb⟩; have h12 := hb.size; have Qb := Lib.hid (Qa.out.trans (hb.mono Qa.out.size)); have Ra2 := Lib.hid (Kd.R_below Ra.out hb); clear hb))
    clear Ra Qa
    go_upto_region 11 with (first | ((with_reducible refine gate_ (.load 34 (.tmp 6)) rfl ?_); go_must (refine wpList_load_row rfl 34 (.tmp 6) rfl b6 rfl _ _ _ _ (HQ.out.below Qb.out).h6 Try.underlying34 rfl (by kernel_rfl) ?_)) | (go_at_call 28; go_must (refine (relation_calls p _ _ (HQ.out.below Qb.out).kg (okB_iff.1 hs.ok) (by omega)).mono ?_); rintro e Wb ⟨v, rfl, hN, hb⟩; rw [← HRL.out] at hN; have hR := R_of_N hN; clear hN; obtain ⟨Ab, cb, ea⟩ := Kd.R_slice hR; subst ea; obtain ⟨S2, hS2⟩ : ∃ S, S = Wb.heap.size := ⟨_, rfl⟩; have Qc := Lib.hid (Qb.out.trans (hb.mono Qb.out.size)); have Ra3 := Lib.hid (Kd.R_below Ra2.out hb); have Rb3 := Lib.hid (r_told (Kd.R_lower hR (show S1 ≤ Wa2.heap.size by omega)) hS2); have h23 := hb.size; clear hR hb))
    clear Ra2 Qb
    go_upto_region 12 with (first | ((with_reducible refine gate_ (.load 34 (.tmp 6)) rfl ?_); go_must (refine wpList_load_row rfl 34 (.tmp 6) rfl b6 rfl _ _ _ _ (HQ.out.below Qc.out).h6 Try.underlying34 rfl (by kernel_rfl) ?_)) | (go_at_call 28; go_must (refine (relation_calls p _ _ (HQ.out.below Qc.out).kg (okB_iff.1 hs.ok) (by omega)).mono ?_); rintro e Wc ⟨v, rfl, hN, hb⟩; rw [← HRL.out] at hN; have hR := R_of_N hN; clear hN; obtain ⟨Ac, cc, ea⟩ := Kd.R_slice hR; subst ea; obtain ⟨S3, hS3⟩ : ∃ S, S = Wc.heap.size := ⟨_, rfl⟩; have HT := Lib.hid (Tq.mk (Qc.out.trans (hb.mono Qc.out.size)) (Kd.R_below Ra3.out hb) (Kd.R_below Rb3.out hb) (r_told (Kd.R_lower hR (show S2 ≤ Wb.heap.size by omega)) hS3) (show S3 ≤ Wc.heap.size by omega)); have h34 := hb.size; clear hR hb))
    clear Ra3 Rb3 Qc
    have hS12 : S1 ≤ S2 := by omega
    have hS23 : S2 ≤ S3 := by omega
    clear h12 h23 h34 hS1 hS2 hS3
    go_upto_region 14 with (first | (go_at_call 29; (with_reducible refine (same_k rl ?s0 Aa AW ca cW _ ?s1 ?s2 ?s3 hcW).mono ?_); go_must (case s0 => omega); go_must (case s1 => exact (Kd.R_reads' HT.out.a).2.2); go_must (case s2 => exact (Kd.R_reads' HT.out.a).2.1); go_must (case s3 => exact (HQ.out.below HT.out.q).hw); rintro e Wc1 ⟨rfl, hb⟩; have HT1 := Lib.hid (HT.out.below hb); clear hb) | (go_at_call 29; (with_reducible refine (same_k rl ?s0 Ab AW cb cW _ ?s1 ?s2 ?s3 hcW).mono ?_); go_must (case s0 => omega); go_must (case s1 => exact (Kd.R_reads' HT1.out.b).2.2); go_must (case s2 => exact (Kd.R_reads' HT1.out.b).2.1); go_must (case s3 => exact (HQ.out.below HT1.out.q).hw); rintro e Wc2 ⟨rfl, hb⟩; have HT2 := Lib.hid (HT1.out.below hb); clear hb) | (go_at_call 29; (with_reducible refine (same_k rl ?s0 Ac AW cc cW _ ?s1 ?s2 ?s3 hcW).mono ?_); go_must (case s0 => omega); go_must (case s1 => exact (Kd.R_reads' HT2.out.c).2.2); go_must (case s2 => exact (Kd.R_reads' HT2.out.c).2.1); go_must (case s3 => exact (HQ.out.below HT2.out.q).hw); rintro e Wc3 ⟨rfl, hb⟩; have HT3 := Lib.hid (HT2.out.below hb); clear hb))
    clear HT HT1 HT2
    go_wp2_with fail
    have hn0 : rl.length ≤ 65536 := hrl6
    go_loopw [10] (fun i wr => ∃ (k : Nat), k ≤ rl.length ∧ i = .int .i64 (k : Nat) ∧ Tq V S1 S2 S3 (.slice Aa rl.length ca) (.slice Ab rl.length cb) (.slice Ac rl.length cc) (fl 49 k rl) rl rl wr) (fun i _ => rl.length - (intOf i).toNat)
    case atStart => exact ⟨0, Nat.zero_le _, rfl, HT3.out⟩
    case round =>
      obtain ⟨k, hk, rfl, hT⟩ := hrel
      have HT := Lib.hid hT
      clear hT HT3
      by_cases hlt : k < rl.length
      · have hC := (Kd.R_reads' HT.out.a).2.2
        rw [fl_len 49 k rl hk] at hC
        obtain ⟨ad, eA, -, -, -⟩ := at_T36 hC (k : Int) (by omega) (by omega)
        subst eA
        obtain ⟨g, rfl⟩ := Kd.R_head HT.out.a
        obtain ⟨cs, hcl, -, hcc, -⟩ := Kd.R_elem HT.out.a (tM 49) (k : Int) (by omega) (by omega)
        have hg1 : g < S1 := HT.out.a.1 g rfl
        clear hC
        have i0 : (0 : Int) ≤ (k : Int) := by omega
        have i1 : (k : Int) < (rl.length : Int) := by omega
        go_wp2_with ((with_reducible refine gate_ (.store 36 (.tmp 60) (.tmp 59)) rfl ?_); go_must (refine Kd.R_store k36 (w0 := wr) V.heap.size rfl rfl 36 (.tmp 60) (.tmp 59) rfl 36 (g := g) (n := rl.length) (cap := ca) (o' := k * 3) (k : Int) 0 (fl 49 k rl) (tM 49) (.agg #[.string ⟨#[35, 49]⟩, .string ⟨#[]⟩, .string ⟨#[]⟩]) [.string ⟨#[35, 49]⟩, .string ⟨#[]⟩, .string ⟨#[]⟩] cs (fun k => k < S1) (fun _ => False) ?ha ?hb ?hc rfl (by kernel_rfl) ?hone HT.out.a (by omega) (by omega) hcl hcc (by decide) (cs_put hcl) (fun _ h => h.elim) (Below.refl _ _) ?_); go_must (case ha => first | rfl | (go_simp; done) | (go_simp; rfl)); go_must (case hb => simp; rfl); go_must (case hc => first | rfl | (go_simp; done) | (go_simp; rfl)); go_must (case hone => intro q hq; simp only [List.mem_cons, List.not_mem_nil, or_false] at hq; rcases hq with rfl | rfl | rfl <;> rfl); intro wn hR hbn hgn)
        go_roundw
        case rel =>
          rw [Int.toNat_natCast, fl_set 49 k rl hlt] at hR
          exact ⟨k + 1, hlt, by go_num, HT.out.q.trans hbn, hR, r_far HT.out.b hgn (fun j hj => .inl (by injection hj with hj; omega)), r_far HT.out.c hgn (fun j hj => .inl (by injection hj with hj; omega)), Nat.le_trans HT.out.s hgn.size⟩
        case measure => simp [intOf]; omega
      · obtain rfl : k = rl.length := by omega
        have hT4 := HT.out
        rw [fl_all 49 rl] at hT4
        obtain ⟨LA, hLA⟩ : ∃ L, L = List.replicate rl.length (tM 49) := ⟨_, rfl⟩
        rw [← hLA] at hT4
        have hLAl : LA.length = rl.length := by rw [hLA, List.length_replicate]
        have HLA := Lib.hid hLA
        have HT4 := Lib.hid hT4
        clear hT4 HT hLA hlt hk
        go_wp2_with fail
        go_loopw [11, 12] (fun v i wr => ∃ (k m : Nat) (T : Option Addr) (t : Nat), k ≤ 40 ∧ i = .int .i64 (k : Nat) ∧ v = .slice T m t ∧ Hid (m = rl.length + k) ∧ Tq V S1 S2 S3 (.slice Aa rl.length ca) (.slice Ab rl.length cb) (.slice Ac rl.length cc) LA rl rl wr ∧ Hid ((T = Aa ∧ t = ca) ∨ ∀ j, (Value.slice T m t).ownBlock = some j → S3 ≤ j) ∧ Kd.R k36 36 wr V.heap.size (fun k => k < S1 ∨ S3 ≤ k) (.slice T m t) (LA ++ List.replicate k (tM 50))) (fun _ i _ => 40 - (intOf i).toNat)
        case atStart => exact ⟨0, rl.length, Aa, ca, Nat.zero_le _, rfl, rfl, Lib.hid (by simp), HT4.out, Lib.hid (.inl ⟨rfl, rfl⟩), by rw [List.replicate_zero, List.append_nil]; exact Kd.R_mono HT4.out.a (fun k hk => .inl hk)⟩
        case round =>
          obtain ⟨k, m, T, t, hk, rfl, rfl, hm, hT, hD, hR⟩ := hrel
          have HT := Lib.hid hT
          have HR := Lib.hid hR
          clear hT hR HT4
          by_cases hlt : k < 40
          · have i1 : (k : Int) < 40 := by omega
            have hml : (LA ++ List.replicate k (tM 50)).length = m := by rw [List.length_append, List.length_replicate, hLAl, hm.out]
            have hm5 : m ≤ 65576 := by rw [hm.out]; omega
            have HML := Lib.hid hml
            clear hml
            go_wp2_with ((with_reducible refine gate_builtin (b := .append) (xs := #[.tmp 66, .tmp 68]) rfl ?_); at_builtin; go_must (refine R_append_two k36 (w0 := wr) V.heap.size rfl (.tmp 66) (.tmp 68) 32 36 (.agg #[(.string ⟨#[]⟩), (.string ⟨#[]⟩), (.string ⟨#[]⟩)]) 48 rfl Try.underlying32 info36 rfl (by decide) (by omega) (.slice T m t) (LA ++ List.replicate k (tM 50)) (tM 50) [.string ⟨#[35, 50]⟩, .string ⟨#[]⟩, .string ⟨#[]⟩] (fun k => k < S1 ∨ S3 ≤ k) (fun _ => False) rfl (by first | (go_simp; done) | (go_simp; rfl)) ?aP (fun _ hk => hk.elim) ?aF ?aO ?aB ?aS ?aL ?_); go_must (case aP => exact k36_mkM _ _ _ (tM 50)); go_must (case aB => exact Below.refl _ _); go_must (case aF => exact (fun j hj => .inr (Nat.le_trans HT.out.s hj))); go_must (case aO => exact HR.out); go_must (case aS => exact HT.out.q.size); go_must (case aL => rw [HML.out]; omega); intro v1 wn hR1 hb1 hc1; go_must (rw [HML.out] at hc1); obtain ⟨T1, t1, e1, hT1, hD1⟩ := more_d h01 hS12 hS23 HT.out hLAl HML.out hD.out (HR.out).1 hR1 hb1 hc1; clear hc1 hb1; subst e1; have HT1 := Lib.hid hT1; have HD1 := Lib.hid hD1; have HR1 := Lib.hid hR1; clear hT1 hD1 hR1)
            go_roundw
            case rel =>
              exact ⟨k + 1, m + 1, T1, t1, hlt, by go_num, rfl, Lib.hid (by rw [hm.out]; omega), HT1.out, HD1, by rw [List.replicate_succ', ← List.append_assoc]; exact HR1.out⟩
            case measure => simp [intOf]; omega
          · obtain rfl : k = 40 := by omega
            have HM := Lib.hid hm.out
            clear hlt hk hD hm
            obtain ⟨LD, hLD⟩ : ∃ L, L = LA ++ List.replicate 40 (tM 50) := ⟨_, rfl⟩
            have hR9 := HR.out
            rw [← hLD] at hR9
            have HLD := Lib.hid hLD
            have HR9 := Lib.hid hR9
            have hm40 : rl.length ≤ m := by rw [HM.out]; omega
            have hLDl : LD.length = m := by rw [hLD, List.length_append, List.length_replicate, hLAl, HM.out]
            clear hR9 HR hLD
            go_wp2_with fail
            go_loopw [13] (fun i wr => ∃ (k : Nat), k ≤ rl.length ∧ i = .int .i64 (k : Nat) ∧ Tq V S1 S2 S3 (.slice Aa rl.length ca) (.slice Ab rl.length cb) (.slice Ac rl.length cc) LA rl (fl 51 k rl) wr ∧ Kd.R k36 36 wr V.heap.size (fun k => k < S1 ∨ S3 ≤ k) (.slice T m t) LD) (fun i _ => rl.length - (intOf i).toNat)
            case atStart => exact ⟨0, Nat.zero_le _, rfl, HT.out, HR9.out⟩
            case round =>
              obtain ⟨k, hk, rfl, hT, hR⟩ := hrel
              have HT5 := Lib.hid hT
              have HR5 := Lib.hid hR
              clear hT hR HT HR9
              by_cases hlt : k < rl.length
              · have hC := (Kd.R_reads' HT5.out.c).2.2
                rw [fl_len 51 k rl hk] at hC
                obtain ⟨ad, eA, -, -, -⟩ := at_T36 hC (k : Int) (by omega) (by omega)
                subst eA
                obtain ⟨g, rfl⟩ := Kd.R_head HT5.out.c
                obtain ⟨cs, hcl, -, hcc, -⟩ := Kd.R_elem HT5.out.c (tM 51) (k : Int) (by omega) (by omega)
                have hg1 : g < S3 := HT5.out.c.1 g rfl
                have hg2 : S2 ≤ g := Kd.R_base HT5.out.c g rfl
                clear hC
                have i0 : (0 : Int) ≤ (k : Int) := by omega
                have i1 : (k : Int) < (rl.length : Int) := by omega
                go_wp2_with ((with_reducible refine gate_ (.store 36 (.tmp 79) (.tmp 78)) rfl ?_); go_must (refine Kd.R_store k36 (w0 := wr) S2 rfl rfl 36 (.tmp 79) (.tmp 78) rfl 36 (g := g) (n := rl.length) (cap := cc) (o' := k * 3) (k : Int) 0 (fl 51 k rl) (tM 51) (.agg #[.string ⟨#[35, 51]⟩, .string ⟨#[]⟩, .string ⟨#[]⟩]) [.string ⟨#[35, 51]⟩, .string ⟨#[]⟩, .string ⟨#[]⟩] cs (fun k => k < S3) (fun _ => False) ?ha ?hb ?hc rfl (by kernel_rfl) ?hone HT5.out.c (by omega) (by omega) hcl hcc (by decide) (cs_put hcl) (fun _ h => h.elim) (Below.refl _ _) ?_); go_must (case ha => first | rfl | (go_simp; done) | (go_simp; rfl)); go_must (case hb => simp; rfl); go_must (case hc => first | rfl | (go_simp; done) | (go_simp; rfl)); go_must (case hone => intro q hq; simp only [List.mem_cons, List.not_mem_nil, or_false] at hq; rcases hq with rfl | rfl | rfl <;> rfl); intro wn hR hbn hgn)
                go_roundw
                case rel =>
                  rw [Int.toNat_natCast, fl_set 51 k rl hlt] at hR
                  exact ⟨k + 1, hlt, by go_num, ⟨HT5.out.q.trans (hbn.mono (by omega)), r_far HT5.out.a hgn (fun j hj => .inr (fun h9 => absurd (show j < S1 from h9) (by injection hj with hj; omega))), r_far HT5.out.b hgn (fun j hj => .inr (fun h9 => absurd (show j < S2 from h9) (by injection hj with hj; omega))), hR, Nat.le_trans HT5.out.s hgn.size⟩, r_far HR5.out hgn (fun j hj => .inr (fun h9 => absurd (show j < S1 ∨ S3 ≤ j from h9) (by injection hj with hj; omega)))⟩
                case measure => simp [intOf]; omega
              · obtain rfl : k = rl.length := by omega
                clear hlt hk
                go_wp2_with fail
                go_loopw [14] (fun i wr => ∃ (k : Nat), k ≤ rl.length ∧ i = .int .i64 (k : Nat) ∧ Tq V S1 S2 S3 (.slice Aa rl.length ca) (.slice Ab rl.length cb) (.slice Ac rl.length cc) LA rl (fl 51 rl.length rl) wr ∧ Kd.R k36 36 wr V.heap.size (fun k => k < S1 ∨ S3 ≤ k) (.slice T m t) LD) (fun i _ => rl.length - (intOf i).toNat)
                case atStart => exact ⟨0, Nat.zero_le _, rfl, HT5.out, HR5.out⟩
                case round =>
                  obtain ⟨k, hk, rfl, hT, hR⟩ := hrel
                  have HT6 := Lib.hid hT
                  have HR6 := Lib.hid hR
                  clear hT hR HT5 HR5
                  by_cases hlt : k < rl.length
                  · have hC := (Kd.R_reads' HT6.out.a).2.2
                    rw [hLAl] at hC
                    obtain ⟨ad, eA, a1, -, -⟩ := at_T36 hC (k : Int) (by omega) (by omega)
                    have hC2 := (Kd.R_reads' HR6.out).2.2
                    rw [hLDl] at hC2
                    obtain ⟨ad2, eA2, a2, -, -⟩ := at_T36 hC2 (k : Int) (by omega) (by omega)
                    rw [show (rd_T36 LA (k : Int)).f0 = ⟨#[35, 49]⟩ from by rw [HLA.out]; have := rd_rep (n := rl.length) [] 49 hlt; rw [List.append_nil] at this; exact this, Int.toNat_natCast] at a1
                    rw [show (rd_T36 LD (k : Int)).f0 = ⟨#[35, 49]⟩ from by rw [HLD.out, HLA.out]; exact rd_rep (n := rl.length) _ 49 hlt, Int.toNat_natCast] at a2
                    clear hC hC2
                    have i0 : (0 : Int) ≤ (k : Int) := by omega
                    have i1 : (k : Int) < (rl.length : Int) := by omega
                    have i2 : (k : Int) < (m : Int) := by omega
                    subst eA
                    subst eA2
                    go_wp2_with fail
                    go_roundw
                    case rel => exact ⟨k + 1, hlt, by go_num, HT6.out, HR6.out⟩
                    case measure => simp [intOf]; omega
                  · obtain rfl : k = rl.length := by omega
                    clear hlt hk
                    go_upto_region 33 with (first | ((with_reducible refine gate_ (.load 34 (.tmp 6)) rfl ?_); go_must (refine wpList_load_row rfl 34 (.tmp 6) rfl b6 rfl _ _ _ _ (HQ.out.below HT6.out.q).h6 Try.underlying34 rfl (by kernel_rfl) ?_)) | (go_at_call 28; go_must (refine (relation_calls p _ _ (HQ.out.below HT6.out.q).kg (okB_iff.1 hs.ok) (by omega)).mono ?_); rintro e We ⟨v, rfl, hN, hb⟩; rw [← HRL.out] at hN; have hR := R_of_N hN; clear hN; obtain ⟨Ae, ce, ea⟩ := Kd.R_slice hR; subst ea; have RE := Lib.hid hR; have HT7 := Lib.hid (HT6.out.below hb); clear hR hb))
                    clear HT6 HR6
                    go_wp2_with (first | ((with_reducible refine gate_ (.load 39 (.tmp 5)) rfl ?_); (try (refine gate_guard (by rfl) ?_; dsimp only)); go_must (refine wpList_load_row rfl 39 (.tmp 5) rfl b5 rfl _ _ _ _ (HQ.out.below HT9.out.q).h5 Try.underlying39 rfl HS5.out ?_)) | ((with_reducible refine gate_ (.load 34 (.tmp 1)) rfl ?_); (try (refine gate_guard (by rfl) ?_; dsimp only)); go_must (refine wpList_load_row rfl 34 (.tmp 1) rfl b1 rfl _ _ _ _ (HQ.out.below HT9.out.q).h1 Try.underlying34 rfl (by kernel_rfl) ?_)) | (go_at_call 29; (with_reducible refine (same_k rl ?s0 Ab AW cb cW _ ?s1 ?s2 ?s3 hcW).mono ?_); go_must (case s0 => omega); go_must (case s1 => exact (Kd.R_reads' HT7.out.b).2.2); go_must (case s2 => exact (Kd.R_reads' HT7.out.b).2.1); go_must (case s3 => exact (HQ.out.below HT7.out.q).hw); rintro e Wf ⟨rfl, hb⟩; have HT8 := Lib.hid (HT7.out.below hb); have RE2 := Lib.hid (Kd.R_below RE.out hb); clear hb) | (go_at_call 29; (with_reducible refine (same_k rl ?s0 Ae AW ce cW _ ?s1 ?s2 ?s3 hcW).mono ?_); go_must (case s0 => omega); go_must (case s1 => exact (Kd.R_reads' RE2.out).2.2); go_must (case s2 => exact (Kd.R_reads' RE2.out).2.1); go_must (case s3 => exact (HQ.out.below HT8.out.q).hw); rintro e Wg ⟨rfl, hb⟩; have HT9 := Lib.hid (HT8.out.below hb); have HR5_ := Lib.hid (HQ.out.below HT9.out.q); clear hb) | (go_at_call 21; go_must (refine (HU.out _ HT9.out.q).mono ?_); rintro e Wh ⟨rfl, hb⟩; have HT10 := Lib.hid (HT9.out.below hb); clear hb))
                    go_ret
                    exact ⟨rfl, (HQ.out.below HT10.out.q).bel⟩
end Go.Proofs.Ytnkdcekddhmjnaa.F
