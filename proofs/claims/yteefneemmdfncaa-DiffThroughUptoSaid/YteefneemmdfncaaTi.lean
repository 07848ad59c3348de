import Derived.Test.YteefneemmdfncaaCh
/- DiffThrough: its regions that draw their order; its plain part. Conditions: each theorem's own. -/
namespace Go.Proofs.Yteefneemmdfncaa.M
open Go.RowKit Go.Proofs.YteefneemmdfncaaW.Raw Go.Proofs.YteefneemmdfncaaW.PrintWords Go.Proofs.YteefneemmdfncaaW.PrintLast Go.Proofs.YteefneemmdfncaaW.PrintAll Go.Proofs.Yteefneemmdfncaa.F
set_option linter.unusedVariables false
set_option linter.unusedSimpArgs false

theorem twin_m (p : Pol) (C0 : Array Value) (w : World) (hk : k28.K w p C0.toList) (hs : Sz p) :
    Calls Try.prog 30 #[.agg C0] w fun e w' => ∃ C1 : Array Value, e = .returned (.agg C1) ∧ k28.M w' w.heap.size (fun k => w.heap.size ≤ k) p C1.toList ∧ Below w.heap.size w w' := by
  obtain ⟨k, hk2⟩ := twin_f p hs
  obtain ⟨A0, c0, A1, c1, A2, c2, A3, c3, A4, c4, A5, c5, A6, c6, A7, c7, A8, c8, A9, c9, A10, c10, e_, l0, g0, l1, g1, l2, g2, l3, g3, l4, g4, l5, g5, l6, g6, l7, g7, l8, g8, l9, g9, l10, g10⟩ := k28_open hk
  obtain rfl : C0 = #[.slice A0 p.f0.length c0, .slice A1 p.f1.length c1, .slice A2 p.f2.length c2, .slice A3 p.f3.length c3, .slice A4 p.f4.length c4, .slice A5 p.f5.length c5, .slice A6 p.f6.length c6, .slice A7 p.f7.length c7, .slice A8 p.f8.length c8, .slice A9 p.f9.length c9, .slice A10 p.f10.length c10] := by cases C0; simpa using e_
  clear e_
  refine (gatehouselaw13_twin.calls k A0 c0 p.f0 A1 c1 p.f1 A2 c2 p.f2 A3 c3 p.f3 A4 c4 p.f4 A5 c5 p.f5 A6 c6 p.f6 A7 c7 p.f7 A8 c8 p.f8 A9 c9 p.f9 A10 c10 p.f10 p.f0 p.f1 p.f2 p.f3 p.f4 p.f5 p.f6 p.f7 p.f8 p.f9 p.f10 w g0 l0 g1 l1 g2 l2 g3 l3 g4 l4 g5 l5 g6 l6 g7 l7 g8 l8 g9 l9 g10 l10 (hk2 k (Nat.le_refl _))).mono ?_
  rintro e w' ⟨v0, v1, v2, v3, v4, v5, v6, v7, v8, v9, v10, rfl, h0, h1, h2, h3, h4, h5, h6, h7, h8, h9, h10, hb⟩
  exact ⟨_, rfl, k28_mkM w' _ _ p (Kd.R_mono (Kd.R_bound h0) (fun _ hk => hk.2.1)) (Kd.R_mono (Kd.R_bound h1) (fun _ hk => hk.2.1)) (Kd.R_mono (Kd.R_bound h2) (fun _ hk => hk.2.1)) (Kd.R_mono (Kd.R_bound h3) (fun _ hk => hk.2.1)) (Kd.R_mono (Kd.R_bound h4) (fun _ hk => hk.2.1)) (Kd.R_mono (Kd.R_bound h5) (fun _ hk => hk.2.1)) (Kd.R_mono (Kd.R_bound h6) (fun _ hk => hk.2.1)) (Kd.R_mono (Kd.R_bound h7) (fun _ hk => hk.2.1)) (Kd.R_mono (Kd.R_bound h8) (fun _ hk => hk.2.1)) (Kd.R_mono (Kd.R_bound (Kd.S_R h9)) (fun _ hk => hk.2.1)) (Kd.R_mono (Kd.R_bound h10) (fun _ hk => hk.2.1)), hb⟩
theorem chain_kn (p0 : Pol) (l : List Pol) (C0 : Array Value) (Aa : Option Addr) (n ca : Nat) (w : World) (hn : n = l.length) (hp : k28.K w p0 C0.toList) (hl : Kd.C k28 w Aa n l) (hll : n ≤ 1048576) (hok : ∀ x ∈ p0 :: l, OkA x) :
    Calls Try.prog 42 #[.agg C0, .slice Aa n ca] w fun e W => ∃ (T : Option Addr) (u : Nat), e = .returned (.slice T n u) ∧ n ≤ u ∧ Kd.C kCs W T n (chainTo p0 l n) ∧ Below w.heap.size w W := by
  subst hn
  refine (chain_calls p0 l C0 Aa ca w hp hl hll hok).mono ?_
  rintro e W ⟨v, rfl, ⟨T, u, rfl, h1, h2⟩, hb⟩
  rw [chainTo_len] at h1 h2 ⊢
  exact ⟨T, u, rfl, h1, h2, hb⟩
theorem info28z : (Try.prog.info? 28).map (fun i => (i.zero, i.size, i.bytes)) = some (some (.agg #[.slice none 0 0, .slice none 0 0, .slice none 0 0, .slice none 0 0, .slice none 0 0, .slice none 0 0, .slice none 0 0, .slice none 0 0, .slice none 0 0, .slice none 0 0, .slice none 0 0]), 11, 264) := by kernel_rfl
theorem C_take' {α : Type} {d : Kd α} {w : World} {Aa : Option Addr} {n m : Nat} {xs : List α} (h : Kd.C d w Aa n xs) (hm : m ≤ n) : Kd.C d w Aa m (xs.take m) := by
  have hl : xs.length = n := h.1
  subst hl
  have h2 := Kd.C_take h hm
  rwa [List.length_take, Nat.min_eq_left hm] at h2
/-- The triple's own story along the chain. -/
theorem step_cases (p q : Pol) (t : Tri) : ∃ (b1 b2 : Bool) (n1 n2 : Nat), allowsB p t = b1 ∧ allowsB q t = b2 ∧ toldN (chL p q) ⟨t, false⟩ = n1 ∧ toldN (chL p q) ⟨t, true⟩ = n2 ∧
    ((b1 = true ∧ b2 = true ∧ n1 = 0 ∧ n2 = 0) ∨ (b1 = true ∧ b2 = false ∧ n1 = 1 ∧ n2 = 0) ∨ (b1 = false ∧ b2 = true ∧ n1 = 0 ∧ n2 = 1) ∨ (b1 = false ∧ b2 = false ∧ n1 = 0 ∧ n2 = 0)) := by
  have h := told_cases p q t
  rw [has_allows, has_allows] at h
  exact h
abbrev th19.ns : List (Option Tmp) := [some 78, some 79, some 80, some 81, some 82, some 14]
def th19.T : Bool × List (List Nat × List Nat) := (true, [([], []), ([0], [0]), ([], []), ([2, 1], [2]), ([1, 3, 3], [1, 3]), ([4, 4, 0, 1, 2, 3, 4], [4])])
theorem th19.tab : rtab .any (opsOf Try.f11 19) = th19.T := by kernel_rfl
def th19.V (p q : Pol) : Nat → Value → World → Prop
  | 0 => PolV p
  | 1 => PolV p
  | 2 => PolV q
  | 3 => PolV q
  | 4 => ChV (chL p q)
  | 5 => ChV (chL p q)
  | _ => fun _ _ => True
theorem th19.mono {p q : Pol} : ∀ (j_ : Nat) {v : Value} {W W' : World}, th19.V p q j_ v W → Below W.heap.size W W' → th19.V p q j_ v W'
  | 0, _, _, _, h, hb => PolV.mono h hb
  | 1, _, _, _, h, hb => PolV.mono h hb
  | 2, _, _, _, h, hb => PolV.mono h hb
  | 3, _, _, _, h, hb => PolV.mono h hb
  | 4, _, _, _, h, hb => ChV.mono h hb
  | 5, _, _, _, h, hb => ChV.mono h hb
  | n + 6, _, _, _, _, _ => trivial
set_option maxRecDepth 100000 in
set_option maxHeartbeats 2000000 in
theorem th19.region {Q : Exit → Act → World → Prop} {id : Nat} {a : Act} {w : World} (p q : Pol) {b3 b13 : Nat} (C0 D0 : Array Value) (kp : k28.K w p C0.toList) (kq : k28.K w q D0.toList) (hsp : Sz p) (hsq : Sz q) (hdpq : okD p q = true) (hm : Try.prog.follows .mixedOrders = true) (hs : a.tmps.size = 230) (h3 : a.eval (.tmp 3) = .pointer (some ⟨b3, 0, none⟩)) (hb3 : w.heap[b3]? = some (Obj.cells C0 28 (0, 0)))  (h13 : a.eval (.tmp 13) = .pointer (some ⟨b13, 0, none⟩)) (hb13 : w.heap[b13]? = some (Obj.cells D0 28 (0, 0)))  
    (hdone : ∀ (xs : Nat → Value) (W : World), Below w.heap.size w W → ChV (chL p q) (xs 5) W → Q .normal (putZ a th19.ns 0 xs) W) :
    (Code.region id (opsOf Try.f11 19) true).wp Try.prog Q a w := by
  refine region_pred (T := th19.T) 6 (fun _ W => Below w.heap.size w W) (th19.V p q) hm (by kernel_rfl) th19.tab (by kernel_rfl) (by kernel_rfl) (below_drew (Below.refl _ _)) (fun _ h => h) ?hsteps ?hd
  case hd => exact fun xs W hI hV => hdone xs W hI (hV 5 (by decide))
  case hsteps =>
    have hsz : ∀ t, t < 230 → t < a.tmps.size := fun t ht => by rw [hs]; exact ht
    refine ⟨?_, ?_, ?_, ?_, ?_, ?_, trivial⟩
    · refine step_op (Op.load 28 (.tmp 3)) (some 78) [] th19.ns (by kernel_rfl) rfl (by kernel_rfl) (fun o ho hd hw l xs W hF hl hn K hK => ?_)
      have e1 := eval_o (xs := xs) (ns := th19.ns) h3
      exact load_c (hw _) hd ho b3 e1 (blk_below hb3 hF.1) Try.underlying28 rfl (pol_size kp) (hK.out _ _ (hF.now hF.1 (⟨_, rfl, k28.K_below hF.1 kp⟩)))
    · refine step_op (Op.call { callee := .value (.func 30), args := #[.tmp 78], argTypes := #[28] }) (some 79) [0] th19.ns (by kernel_rfl) rfl (by kernel_rfl) (fun o ho hd hw l xs W hF hl hn K hK => ?_)
      obtain ⟨C_e0, e_e0, k_e0⟩ := hF.get 0 hn.1
      have e0 : (putZ a th19.ns 0 xs).eval (.tmp 78) = .agg C_e0 := (eval_z 0 (hsz 78 (by decide))).trans e_e0
      refine goes_ Try.func30 (by kernel_rfl) rfl #[.agg C_e0] (hw _) hd ho (by simp only [List.map_toArray, List.map_cons, List.map_nil, e0]) ?_
      refine (twin_k p _ W k_e0 hsp).mono ?_
      rintro e W' ⟨C1, rfl, hk, hb⟩
      exact ⟨_, rfl, hK.out _ _ (hF.up (hF.1.trans (hb.mono hF.1.size)) (fun j v _ _ h => th19.mono j h hb) (⟨C1, rfl, hk⟩))⟩
    · refine step_op (Op.load 28 (.tmp 13)) (some 80) [] th19.ns (by kernel_rfl) rfl (by kernel_rfl) (fun o ho hd hw l xs W hF hl hn K hK => ?_)
      have e1 := eval_o (xs := xs) (ns := th19.ns) h13
      exact load_c (hw _) hd ho b13 e1 (blk_below hb13 hF.1) Try.underlying28 rfl (pol_size kq) (hK.out _ _ (hF.now hF.1 (⟨_, rfl, k28.K_below hF.1 kq⟩)))
    · refine step_op (Op.call { callee := .value (.func 30), args := #[.tmp 80], argTypes := #[28] }) (some 81) [2, 1] th19.ns (by kernel_rfl) rfl (by kernel_rfl) (fun o ho hd hw l xs W hF hl hn K hK => ?_)
      obtain ⟨C_e0, e_e0, k_e0⟩ := hF.get 2 hn.1
      have e0 : (putZ a th19.ns 0 xs).eval (.tmp 80) = .agg C_e0 := (eval_z 2 (hsz 80 (by decide))).trans e_e0
      refine goes_ Try.func30 (by kernel_rfl) rfl #[.agg C_e0] (hw _) hd ho (by simp only [List.map_toArray, List.map_cons, List.map_nil, e0]) ?_
      refine (twin_k q _ W k_e0 hsq).mono ?_
      rintro e W' ⟨C1, rfl, hk, hb⟩
      exact ⟨_, rfl, hK.out _ _ (hF.up (hF.1.trans (hb.mono hF.1.size)) (fun j v _ _ h => th19.mono j h hb) (⟨C1, rfl, hk⟩))⟩
    · refine step_op (Op.call { callee := .value (.func 35), args := #[.tmp 79, .tmp 81], argTypes := #[28, 28] }) (some 82) [1, 3, 3] th19.ns (by kernel_rfl) rfl (by kernel_rfl) (fun o ho hd hw l xs W hF hl hn K hK => ?_)
      obtain ⟨C_e0, e_e0, k_e0⟩ := hF.get 1 hn.1
      have e0 : (putZ a th19.ns 0 xs).eval (.tmp 79) = .agg C_e0 := (eval_z 1 (hsz 79 (by decide))).trans e_e0
      obtain ⟨C_e1, e_e1, k_e1⟩ := hF.get 3 hn.2.1
      have e1 : (putZ a th19.ns 0 xs).eval (.tmp 81) = .agg C_e1 := (eval_z 3 (hsz 81 (by decide))).trans e_e1
      refine goes_ Try.func35 (by kernel_rfl) rfl #[.agg C_e0, .agg C_e1] (hw _) hd ho (by simp only [List.map_toArray, List.map_cons, List.map_nil, e0, e1]) ?_
      refine (list_v p q _ _ W k_e0 k_e1 hdpq).mono ?_
      rintro e W' ⟨v, rfl, hv, hb⟩
      exact ⟨_, rfl, hK.out _ _ (hF.up (hF.1.trans (hb.mono hF.1.size)) (fun j v _ _ h => th19.mono j h hb) (hv))⟩
    · refine step_op (Op.assign (.tmp 82)) (some 14) [4, 4, 0, 1, 2, 3, 4] th19.ns (by kernel_rfl) rfl (by kernel_rfl) (fun o ho hd hw l xs W hF hl hn K hK => ?_)
      have e1 : (putZ a th19.ns 0 xs).eval (.tmp 82) = xs 4 := eval_z 4 (hsz 82 (by decide))
      exact value_ (v := xs 4) (hw _) hd (w1 := W) (by simp only [execOp, ho, e1]; go_simp) (hK.out _ _ (hF.now hF.1 (hF.get 4 hn.1)))
abbrev th37.ns : List (Option Tmp) := [some 134, some 135, some 136, some 137, some 138, some 139, some 140, some 20]
def th37.T : Bool × List (List Nat × List Nat) := (true, [([], []), ([0], [0]), ([], []), ([], []), ([2, 3], [2, 3]), ([4], [4]), ([1, 5, 1], [1, 5]), ([6, 6, 0, 1, 2, 3, 4, 5, 6], [6])])
theorem th37.tab : rtab .any (opsOf Try.f11 37) = th37.T := by kernel_rfl
def th37.V (p : Pol) (y : Tri) (ad : Addr) (n cA j : Nat) : Nat → Value → World → Prop
  | 0 => PolV p
  | 1 => PolV p
  | 2 => IsV (.slice (some ad) n cA)
  | 3 => IsV (.int .i64 (j : Nat))
  | 4 => IsV (.pointer (some (ad.add (j * 3))))
  | 5 => IsV (.agg #[.string y.f0, .string y.f1, .string y.f2])
  | 6 => IsV (.bool (allowsB p y))
  | 7 => IsV (.bool (allowsB p y))
  | _ => fun _ _ => True
theorem th37.mono {p : Pol} {y : Tri} {ad : Addr} {n cA j : Nat} : ∀ (j_ : Nat) {v : Value} {W W' : World}, th37.V p y ad n cA j j_ v W → Below W.heap.size W W' → th37.V p y ad n cA j j_ v W'
  | 0, _, _, _, h, hb => PolV.mono h hb
  | 1, _, _, _, h, hb => PolV.mono h hb
  | 2, _, _, _, h, hb => h
  | 3, _, _, _, h, hb => h
  | 4, _, _, _, h, hb => h
  | 5, _, _, _, h, hb => h
  | 6, _, _, _, h, hb => h
  | 7, _, _, _, h, hb => h
  | n + 8, _, _, _, _, _ => trivial
set_option maxRecDepth 100000 in
set_option maxHeartbeats 2000000 in
theorem th37.region {Q : Exit → Act → World → Prop} {id : Nat} {a : Act} {w : World} (p : Pol) (y : Tri) (ad : Addr) (n cA j : Nat) {b3 : Nat} (C0 : Array Value) (kp : k28.K w p C0.toList) (hsp : Sz p) (okp : OkP p) (i0 : (0 : Int) ≤ (j : Int)) (i1 : (j : Int) < (n : Int)) (hcel : ∀ W, Below w.heap.size w W → W.cell? (ad.add (j * 3)) = some (.string y.f0) ∧ W.cell? ⟨(ad.add (j * 3)).block, (ad.add (j * 3)).off + 1, none⟩ = some (.string y.f1) ∧ W.cell? ⟨(ad.add (j * 3)).block, (ad.add (j * 3)).off + 2, none⟩ = some (.string y.f2)) (hm : Try.prog.follows .mixedOrders = true) (hs : a.tmps.size = 230) (h3 : a.eval (.tmp 3) = .pointer (some ⟨b3, 0, none⟩)) (hb3 : w.heap[b3]? = some (Obj.cells C0 28 (0, 0)))  (h15 : a.eval (.tmp 15) = .slice (some ad) n cA) (h19 : a.eval (.tmp 19) = .int .i64 (j : Nat))
    (hdone : ∀ (xs : Nat → Value) (W : World), Below w.heap.size w W → IsV (.bool (allowsB p y)) (xs 7) W → Q .normal (putZ a th37.ns 0 xs) W) :
    (Code.region id (opsOf Try.f11 37) true).wp Try.prog Q a w := by
  refine region_pred (T := th37.T) 8 (fun _ W => Below w.heap.size w W) (th37.V p y ad n cA j) hm (by kernel_rfl) th37.tab (by kernel_rfl) (by kernel_rfl) (below_drew (Below.refl _ _)) (fun _ h => h) ?hsteps ?hd
  case hd => exact fun xs W hI hV => hdone xs W hI (hV 7 (by decide))
  case hsteps =>
    have hsz : ∀ t, t < 230 → t < a.tmps.size := fun t ht => by rw [hs]; exact ht
    refine ⟨?_, ?_, ?_, ?_, ?_, ?_, ?_, ?_, trivial⟩
    · refine step_op (Op.load 28 (.tmp 3)) (some 134) [] th37.ns (by kernel_rfl) rfl (by kernel_rfl) (fun o ho hd hw l xs W hF hl hn K hK => ?_)
      have e1 := eval_o (xs := xs) (ns := th37.ns) h3
      exact load_c (hw _) hd ho b3 e1 (blk_below hb3 hF.1) Try.underlying28 rfl (pol_size kp) (hK.out _ _ (hF.now hF.1 (⟨_, rfl, k28.K_below hF.1 kp⟩)))
    · refine step_op (Op.call { callee := .value (.func 30), args := #[.tmp 134], argTypes := #[28] }) (some 135) [0] th37.ns (by kernel_rfl) rfl (by kernel_rfl) (fun o ho hd hw l xs W hF hl hn K hK => ?_)
      obtain ⟨C_e0, e_e0, k_e0⟩ := hF.get 0 hn.1
      have e0 : (putZ a th37.ns 0 xs).eval (.tmp 134) = .agg C_e0 := (eval_z 0 (hsz 134 (by decide))).trans e_e0
      refine goes_ Try.func30 (by kernel_rfl) rfl #[.agg C_e0] (hw _) hd ho (by simp only [List.map_toArray, List.map_cons, List.map_nil, e0]) ?_
      refine (twin_k p _ W k_e0 hsp).mono ?_
      rintro e W' ⟨C1, rfl, hk, hb⟩
      exact ⟨_, rfl, hK.out _ _ (hF.up (hF.1.trans (hb.mono hF.1.size)) (fun j v _ _ h => th37.mono j h hb) (⟨C1, rfl, hk⟩))⟩
    · refine step_op (Op.move (.tmp 15)) (some 136) [] th37.ns (by kernel_rfl) rfl (by kernel_rfl) (fun o ho hd hw l xs W hF hl hn K hK => ?_)
      have e1 := eval_o (xs := xs) (ns := th37.ns) h15
      exact value_ (v := .slice (some ad) n cA) (hw _) hd (w1 := W) (by simp only [execOp, ho, e1]; go_simp) (hK.out _ _ (hF.now hF.1 (rfl)))
    · refine step_op (Op.move (.tmp 19)) (some 137) [] th37.ns (by kernel_rfl) rfl (by kernel_rfl) (fun o ho hd hw l xs W hF hl hn K hK => ?_)
      have e1 := eval_o (xs := xs) (ns := th37.ns) h19
      exact value_ (v := .int .i64 (j : Nat)) (hw _) hd (w1 := W) (by simp only [execOp, ho, e1]; go_simp) (hK.out _ _ (hF.now hF.1 (rfl)))
    · refine step_op (Op.indexAddr 26 (.tmp 136) (.tmp 137)) (some 138) [2, 3] th37.ns (by kernel_rfl) rfl (by kernel_rfl) (fun o ho hd hw l xs W hF hl hn K hK => ?_)
      have e0 : (putZ a th37.ns 0 xs).eval (.tmp 136) = .slice (some ad) n cA := (eval_z 2 (hsz 136 (by decide))).trans (hF.get 2 hn.1)
      have e1 : (putZ a th37.ns 0 xs).eval (.tmp 137) = .int .i64 (j : Nat) := (eval_z 3 (hsz 137 (by decide))).trans (hF.get 3 hn.2.1)
      exact value_ (v := .pointer (some (ad.add (j * 3)))) (hw _) hd (w1 := W) (by simp only [Act.eval, Array.getD_eq_getD_getElem?] at e0 e1; simp only [execOp, ho]; go_simp) (hK.out _ _ (hF.now hF.1 rfl))
    · refine step_op (Op.load 30 (.tmp 138)) (some 139) [4] th37.ns (by kernel_rfl) rfl (by kernel_rfl) (fun o ho hd hw l xs W hF hl hn K hK => ?_)
      have e0 : (putZ a th37.ns 0 xs).eval (.tmp 138) = .pointer (some (ad.add (j * 3))) := (eval_z 4 (hsz 138 (by decide))).trans (hF.get 4 hn.1)
      obtain ⟨q0, q1, q2⟩ := hcel W hF.1
      exact value_ (v := .agg #[.string y.f0, .string y.f1, .string y.f2]) (hw _) hd (w1 := W) (by simp only [Act.eval, Array.getD_eq_getD_getElem?] at e0; simp only [execOp, ho]; go_simp) (hK.out _ _ (hF.now hF.1 rfl))
    · refine step_op (Op.call { callee := .value (.func 45), args := #[.tmp 135, .tmp 139], argTypes := #[28, 30] }) (some 140) [1, 5, 1] th37.ns (by kernel_rfl) rfl (by kernel_rfl) (fun o ho hd hw l xs W hF hl hn K hK => ?_)
      obtain ⟨C_e0, e_e0, k_e0⟩ := hF.get 1 hn.1
      have e0 : (putZ a th37.ns 0 xs).eval (.tmp 135) = .agg C_e0 := (eval_z 1 (hsz 135 (by decide))).trans e_e0
      have e1 : (putZ a th37.ns 0 xs).eval (.tmp 139) = .agg #[.string y.f0, .string y.f1, .string y.f2] := (eval_z 5 (hsz 139 (by decide))).trans (hF.get 5 hn.2.1)
      refine goes_ Try.func45 (by kernel_rfl) rfl #[.agg C_e0, .agg #[.string y.f0, .string y.f1, .string y.f2]] (hw _) hd ho (by simp only [List.map_toArray, List.map_cons, List.map_nil, e0, e1]) ?_
      refine (allows_pol_calls p _ y W k_e0 okp).mono ?_
      rintro e W' ⟨rfl, hb⟩
      exact ⟨_, rfl, hK.out _ _ (hF.up (hF.1.trans (hb.mono hF.1.size)) (fun j v _ _ h => th37.mono j h hb) (rfl))⟩
    · refine step_op (Op.assign (.tmp 140)) (some 20) [6, 6, 0, 1, 2, 3, 4, 5, 6] th37.ns (by kernel_rfl) rfl (by kernel_rfl) (fun o ho hd hw l xs W hF hl hn K hK => ?_)
      have e1 : (putZ a th37.ns 0 xs).eval (.tmp 140) = xs 6 := eval_z 6 (hsz 140 (by decide))
      exact value_ (v := xs 6) (hw _) hd (w1 := W) (by simp only [execOp, ho, e1]; go_simp) (hK.out _ _ (hF.now hF.1 (hF.get 6 hn.1)))
abbrev th42.ns : List (Option Tmp) := [some 148, some 149, some 150, some 151, some 152, some 153, some 154, some 155, some 156, some 157, some 23]
def th42.T : Bool × List (List Nat × List Nat) := (true, [([], []), ([], []), ([0, 1], [0, 1]), ([2], [2]), ([], []), ([], []), ([4, 5], [4, 5]), ([6], [6]), ([7], [7]), ([3, 8], [3, 8]), ([9, 9, 0, 1, 2, 3, 4, 5, 6, 7, 8, 9], [9])])
theorem th42.tab : rtab .any (opsOf Try.f11 42) = th42.T := by kernel_rfl
def th42.V (y : Tri) (ad : Addr) (n cA j : Nat) (aL : Addr) (nL cL k : Nat) (AK : Option Addr) (nK cK : Nat) (LK : List Chg) : Nat → Value → World → Prop
  | 0 => IsV (.slice (some aL) nL cL)
  | 1 => IsV (.int .i64 (k : Nat))
  | 2 => IsV (.pointer (some (aL.add k)))
  | 3 => IsV (.slice AK nK cK)
  | 4 => IsV (.slice (some ad) n cA)
  | 5 => IsV (.int .i64 (j : Nat))
  | 6 => IsV (.pointer (some (ad.add (j * 3))))
  | 7 => IsV (.agg #[.string y.f0, .string y.f1, .string y.f2])
  | 8 => IsV (.agg #[.string y.f0, .string y.f1, .string y.f2, .bool false])
  | 9 => IsV (.int .i64 (toldN LK ⟨y, false⟩ : Nat))
  | 10 => IsV (.int .i64 (toldN LK ⟨y, false⟩ : Nat))
  | _ => fun _ _ => True
theorem th42.mono {y : Tri} {ad : Addr} {n cA j : Nat} {aL : Addr} {nL cL k : Nat} {AK : Option Addr} {nK cK : Nat} {LK : List Chg} : ∀ (j_ : Nat) {v : Value} {W W' : World}, th42.V y ad n cA j aL nL cL k AK nK cK LK j_ v W → Below W.heap.size W W' → th42.V y ad n cA j aL nL cL k AK nK cK LK j_ v W'
  | 0, _, _, _, h, hb => h
  | 1, _, _, _, h, hb => h
  | 2, _, _, _, h, hb => h
  | 3, _, _, _, h, hb => h
  | 4, _, _, _, h, hb => h
  | 5, _, _, _, h, hb => h
  | 6, _, _, _, h, hb => h
  | 7, _, _, _, h, hb => h
  | 8, _, _, _, h, hb => h
  | 9, _, _, _, h, hb => h
  | 10, _, _, _, h, hb => h
  | n + 11, _, _, _, _, _ => trivial
set_option maxRecDepth 100000 in
set_option maxHeartbeats 2000000 in
theorem th42.region {Q : Exit → Act → World → Prop} {id : Nat} {a : Act} {w : World} (y : Tri) (ad : Addr) (n cA j : Nat) (aL : Addr) (nL cL k : Nat) (AK : Option Addr) (nK cK : Nat) (LK : List Chg) (i0 : (0 : Int) ≤ (j : Int)) (i1 : (j : Int) < (n : Int)) (k0 : (0 : Int) ≤ (k : Int)) (k1 : (k : Int) < (nL : Int)) (hcel : ∀ W, Below w.heap.size w W → W.cell? (ad.add (j * 3)) = some (.string y.f0) ∧ W.cell? ⟨(ad.add (j * 3)).block, (ad.add (j * 3)).off + 1, none⟩ = some (.string y.f1) ∧ W.cell? ⟨(ad.add (j * 3)).block, (ad.add (j * 3)).off + 2, none⟩ = some (.string y.f2)) (hcl : ∀ W, Below w.heap.size w W → W.cell? (aL.add k) = some (.slice AK nK cK)) (hnK : nK = LK.length) (hCK : Kd.C k53 w AK nK LK) (hlK : nK ≤ cK) (hbK : nK ≤ 1048576) (hm : Try.prog.follows .mixedOrders = true) (hs : a.tmps.size = 230)  (h15 : a.eval (.tmp 15) = .slice (some ad) n cA) (h19 : a.eval (.tmp 19) = .int .i64 (j : Nat)) (h12 : a.eval (.tmp 12) = .slice (some aL) nL cL) (h22 : a.eval (.tmp 22) = .int .i64 (k : Nat))
    (hdone : ∀ (xs : Nat → Value) (W : World), Below w.heap.size w W → IsV (.int .i64 (toldN LK ⟨y, false⟩ : Nat)) (xs 10) W → Q .normal (putZ a th42.ns 0 xs) W) :
    (Code.region id (opsOf Try.f11 42) true).wp Try.prog Q a w := by
  refine region_pred (T := th42.T) 11 (fun _ W => Below w.heap.size w W) (th42.V y ad n cA j aL nL cL k AK nK cK LK) hm (by kernel_rfl) th42.tab (by kernel_rfl) (by kernel_rfl) (below_drew (Below.refl _ _)) (fun _ h => h) ?hsteps ?hd
  case hd => exact fun xs W hI hV => hdone xs W hI (hV 10 (by decide))
  case hsteps =>
    have hsz : ∀ t, t < 230 → t < a.tmps.size := fun t ht => by rw [hs]; exact ht
    refine ⟨?_, ?_, ?_, ?_, ?_, ?_, ?_, ?_, ?_, ?_, ?_, trivial⟩
    · refine step_op (Op.move (.tmp 12)) (some 148) [] th42.ns (by kernel_rfl) rfl (by kernel_rfl) (fun o ho hd hw l xs W hF hl hn K hK => ?_)
      have e1 := eval_o (xs := xs) (ns := th42.ns) h12
      exact value_ (v := .slice (some aL) nL cL) (hw _) hd (w1 := W) (by simp only [execOp, ho, e1]; go_simp) (hK.out _ _ (hF.now hF.1 (rfl)))
    · refine step_op (Op.move (.tmp 22)) (some 149) [] th42.ns (by kernel_rfl) rfl (by kernel_rfl) (fun o ho hd hw l xs W hF hl hn K hK => ?_)
      have e1 := eval_o (xs := xs) (ns := th42.ns) h22
      exact value_ (v := .int .i64 (k : Nat)) (hw _) hd (w1 := W) (by simp only [execOp, ho, e1]; go_simp) (hK.out _ _ (hF.now hF.1 (rfl)))
    · refine step_op (Op.indexAddr 56 (.tmp 148) (.tmp 149)) (some 150) [0, 1] th42.ns (by kernel_rfl) rfl (by kernel_rfl) (fun o ho hd hw l xs W hF hl hn K hK => ?_)
      have e0 : (putZ a th42.ns 0 xs).eval (.tmp 148) = .slice (some aL) nL cL := (eval_z 0 (hsz 148 (by decide))).trans (hF.get 0 hn.1)
      have e1 : (putZ a th42.ns 0 xs).eval (.tmp 149) = .int .i64 (k : Nat) := (eval_z 1 (hsz 149 (by decide))).trans (hF.get 1 hn.2.1)
      exact value_ (v := .pointer (some (aL.add k))) (hw _) hd (w1 := W) (by simp only [Act.eval, Array.getD_eq_getD_getElem?] at e0 e1; simp only [execOp, ho]; go_simp) (hK.out _ _ (hF.now hF.1 rfl))
    · refine step_op (Op.load 47 (.tmp 150)) (some 151) [2] th42.ns (by kernel_rfl) rfl (by kernel_rfl) (fun o ho hd hw l xs W hF hl hn K hK => ?_)
      have e0 : (putZ a th42.ns 0 xs).eval (.tmp 150) = .pointer (some (aL.add k)) := (eval_z 2 (hsz 150 (by decide))).trans (hF.get 2 hn.1)
      have q0 := hcl W hF.1
      exact value_ (v := .slice AK nK cK) (hw _) hd (w1 := W) (by simp only [Act.eval, Array.getD_eq_getD_getElem?] at e0; simp only [execOp, ho]; go_simp) (hK.out _ _ (hF.now hF.1 rfl))
    · refine step_op (Op.move (.tmp 15)) (some 152) [] th42.ns (by kernel_rfl) rfl (by kernel_rfl) (fun o ho hd hw l xs W hF hl hn K hK => ?_)
      have e1 := eval_o (xs := xs) (ns := th42.ns) h15
      exact value_ (v := .slice (some ad) n cA) (hw _) hd (w1 := W) (by simp only [execOp, ho, e1]; go_simp) (hK.out _ _ (hF.now hF.1 (rfl)))
    · refine step_op (Op.move (.tmp 19)) (some 153) [] th42.ns (by kernel_rfl) rfl (by kernel_rfl) (fun o ho hd hw l xs W hF hl hn K hK => ?_)
      have e1 := eval_o (xs := xs) (ns := th42.ns) h19
      exact value_ (v := .int .i64 (j : Nat)) (hw _) hd (w1 := W) (by simp only [execOp, ho, e1]; go_simp) (hK.out _ _ (hF.now hF.1 (rfl)))
    · refine step_op (Op.indexAddr 26 (.tmp 152) (.tmp 153)) (some 154) [4, 5] th42.ns (by kernel_rfl) rfl (by kernel_rfl) (fun o ho hd hw l xs W hF hl hn K hK => ?_)
      have e0 : (putZ a th42.ns 0 xs).eval (.tmp 152) = .slice (some ad) n cA := (eval_z 4 (hsz 152 (by decide))).trans (hF.get 4 hn.1)
      have e1 : (putZ a th42.ns 0 xs).eval (.tmp 153) = .int .i64 (j : Nat) := (eval_z 5 (hsz 153 (by decide))).trans (hF.get 5 hn.2.1)
      exact value_ (v := .pointer (some (ad.add (j * 3)))) (hw _) hd (w1 := W) (by simp only [Act.eval, Array.getD_eq_getD_getElem?] at e0 e1; simp only [execOp, ho]; go_simp) (hK.out _ _ (hF.now hF.1 rfl))
    · refine step_op (Op.load 30 (.tmp 154)) (some 155) [6] th42.ns (by kernel_rfl) rfl (by kernel_rfl) (fun o ho hd hw l xs W hF hl hn K hK => ?_)
      have e0 : (putZ a th42.ns 0 xs).eval (.tmp 154) = .pointer (some (ad.add (j * 3))) := (eval_z 6 (hsz 154 (by decide))).trans (hF.get 6 hn.1)
      obtain ⟨q0, q1, q2⟩ := hcel W hF.1
      exact value_ (v := .agg #[.string y.f0, .string y.f1, .string y.f2]) (hw _) hd (w1 := W) (by simp only [Act.eval, Array.getD_eq_getD_getElem?] at e0; simp only [execOp, ho]; go_simp) (hK.out _ _ (hF.now hF.1 rfl))
    · refine step_op (Op.build 53 #[(0, .tmp 155)]) (some 156) [7] th42.ns (by kernel_rfl) rfl (by kernel_rfl) (fun o ho hd hw l xs W hF hl hn K hK => ?_)
      have e0 : (putZ a th42.ns 0 xs).eval (.tmp 155) = .agg #[.string y.f0, .string y.f1, .string y.f2] := (eval_z 7 (hsz 155 (by decide))).trans (hF.get 7 hn.1)
      exact value_ (v := .agg #[.string y.f0, .string y.f1, .string y.f2, .bool false]) (hw _) hd (w1 := W) (by simp only [Act.eval, Array.getD_eq_getD_getElem?] at e0; simp only [execOp, ho]; go_simp) (hK.out _ _ (hF.now hF.1 rfl))
    · refine step_op (Op.call { callee := .value (.func 40), args := #[.tmp 151, .tmp 156], argTypes := #[47, 53] }) (some 157) [3, 8] th42.ns (by kernel_rfl) rfl (by kernel_rfl) (fun o ho hd hw l xs W hF hl hn K hK => ?_)
      have e0 : (putZ a th42.ns 0 xs).eval (.tmp 151) = .slice AK nK cK := (eval_z 3 (hsz 151 (by decide))).trans (hF.get 3 hn.1)
      have e1 : (putZ a th42.ns 0 xs).eval (.tmp 156) = .agg #[.string y.f0, .string y.f1, .string y.f2, .bool false] := (eval_z 8 (hsz 156 (by decide))).trans (hF.get 8 hn.2.1)
      refine goes_ Try.func40 (by kernel_rfl) rfl #[.slice AK nK cK, .agg #[.string y.f0, .string y.f1, .string y.f2, .bool false]] (hw _) hd ho (by simp only [List.map_toArray, List.map_cons, List.map_nil, e0, e1]) ?_
      refine (told_kn LK ⟨y, false⟩ AK nK cK W hnK (Kd.C_below hCK hF.1) hlK hbK).mono ?_
      rintro e W' ⟨rfl, hb⟩
      exact ⟨_, rfl, hK.out _ _ (hF.up (hF.1.trans (hb.mono hF.1.size)) (fun j v _ _ h => th42.mono j h hb) (rfl))⟩
    · refine step_op (Op.assign (.tmp 157)) (some 23) [9, 9, 0, 1, 2, 3, 4, 5, 6, 7, 8, 9] th42.ns (by kernel_rfl) rfl (by kernel_rfl) (fun o ho hd hw l xs W hF hl hn K hK => ?_)
      have e1 : (putZ a th42.ns 0 xs).eval (.tmp 157) = xs 9 := eval_z 9 (hsz 157 (by decide))
      exact value_ (v := xs 9) (hw _) hd (w1 := W) (by simp only [execOp, ho, e1]; go_simp) (hK.out _ _ (hF.now hF.1 (hF.get 9 hn.1)))
abbrev th43.ns : List (Option Tmp) := [some 158, some 159, some 160, some 161, some 162, some 163, some 164, some 165, some 166, some 167, some 24]
def th43.T : Bool × List (List Nat × List Nat) := (true, [([], []), ([], []), ([0, 1], [0, 1]), ([2], [2]), ([], []), ([], []), ([4, 5], [4, 5]), ([6], [6]), ([7], [7]), ([3, 8], [3, 8]), ([9, 9, 0, 1, 2, 3, 4, 5, 6, 7, 8, 9], [9])])
theorem th43.tab : rtab .any (opsOf Try.f11 43) = th43.T := by kernel_rfl
def th43.V (y : Tri) (ad : Addr) (n cA j : Nat) (aL : Addr) (nL cL k : Nat) (AK : Option Addr) (nK cK : Nat) (LK : List Chg) : Nat → Value → World → Prop
  | 0 => IsV (.slice (some aL) nL cL)
  | 1 => IsV (.int .i64 (k : Nat))
  | 2 => IsV (.pointer (some (aL.add k)))
  | 3 => IsV (.slice AK nK cK)
  | 4 => IsV (.slice (some ad) n cA)
  | 5 => IsV (.int .i64 (j : Nat))
  | 6 => IsV (.pointer (some (ad.add (j * 3))))
  | 7 => IsV (.agg #[.string y.f0, .string y.f1, .string y.f2])
  | 8 => IsV (.agg #[.string y.f0, .string y.f1, .string y.f2, .bool true])
  | 9 => IsV (.int .i64 (toldN LK ⟨y, true⟩ : Nat))
  | 10 => IsV (.int .i64 (toldN LK ⟨y, true⟩ : Nat))
  | _ => fun _ _ => True
theorem th43.mono {y : Tri} {ad : Addr} {n cA j : Nat} {aL : Addr} {nL cL k : Nat} {AK : Option Addr} {nK cK : Nat} {LK : List Chg} : ∀ (j_ : Nat) {v : Value} {W W' : World}, th43.V y ad n cA j aL nL cL k AK nK cK LK j_ v W → Below W.heap.size W W' → th43.V y ad n cA j aL nL cL k AK nK cK LK j_ v W'
  | 0, _, _, _, h, hb => h
  | 1, _, _, _, h, hb => h
  | 2, _, _, _, h, hb => h
  | 3, _, _, _, h, hb => h
  | 4, _, _, _, h, hb => h
  | 5, _, _, _, h, hb => h
  | 6, _, _, _, h, hb => h
  | 7, _, _, _, h, hb => h
  | 8, _, _, _, h, hb => h
  | 9, _, _, _, h, hb => h
  | 10, _, _, _, h, hb => h
  | n + 11, _, _, _, _, _ => trivial
set_option maxRecDepth 100000 in
set_option maxHeartbeats 2000000 in
theorem th43.region {Q : Exit → Act → World → Prop} {id : Nat} {a : Act} {w : World} (y : Tri) (ad : Addr) (n cA j : Nat) (aL : Addr) (nL cL k : Nat) (AK : Option Addr) (nK cK : Nat) (LK : List Chg) (i0 : (0 : Int) ≤ (j : Int)) (i1 : (j : Int) < (n : Int)) (k0 : (0 : Int) ≤ (k : Int)) (k1 : (k : Int) < (nL : Int)) (hcel : ∀ W, Below w.heap.size w W → W.cell? (ad.add (j * 3)) = some (.string y.f0) ∧ W.cell? ⟨(ad.add (j * 3)).block, (ad.add (j * 3)).off + 1, none⟩ = some (.string y.f1) ∧ W.cell? ⟨(ad.add (j * 3)).block, (ad.add (j * 3)).off + 2, none⟩ = some (.string y.f2)) (hcl : ∀ W, Below w.heap.size w W → W.cell? (aL.add k) = some (.slice AK nK cK)) (hnK : nK = LK.length) (hCK : Kd.C k53 w AK nK LK) (hlK : nK ≤ cK) (hbK : nK ≤ 1048576) (hm : Try.prog.follows .mixedOrders = true) (hs : a.tmps.size = 230)  (h15 : a.eval (.tmp 15) = .slice (some ad) n cA) (h19 : a.eval (.tmp 19) = .int .i64 (j : Nat)) (h12 : a.eval (.tmp 12) = .slice (some aL) nL cL) (h22 : a.eval (.tmp 22) = .int .i64 (k : Nat))
    (hdone : ∀ (xs : Nat → Value) (W : World), Below w.heap.size w W → IsV (.int .i64 (toldN LK ⟨y, true⟩ : Nat)) (xs 10) W → Q .normal (putZ a th43.ns 0 xs) W) :
    (Code.region id (opsOf Try.f11 43) true).wp Try.prog Q a w := by
  refine region_pred (T := th43.T) 11 (fun _ W => Below w.heap.size w W) (th43.V y ad n cA j aL nL cL k AK nK cK LK) hm (by kernel_rfl) th43.tab (by kernel_rfl) (by kernel_rfl) (below_drew (Below.refl _ _)) (fun _ h => h) ?hsteps ?hd
  case hd => exact fun xs W hI hV => hdone xs W hI (hV 10 (by decide))
  case hsteps =>
    have hsz : ∀ t, t < 230 → t < a.tmps.size := fun t ht => by rw [hs]; exact ht
    refine ⟨?_, ?_, ?_, ?_, ?_, ?_, ?_, ?_, ?_, ?_, ?_, trivial⟩
    · refine step_op (Op.move (.tmp 12)) (some 158) [] th43.ns (by kernel_rfl) rfl (by kernel_rfl) (fun o ho hd hw l xs W hF hl hn K hK => ?_)
      have e1 := eval_o (xs := xs) (ns := th43.ns) h12
      exact value_ (v := .slice (some aL) nL cL) (hw _) hd (w1 := W) (by simp only [execOp, ho, e1]; go_simp) (hK.out _ _ (hF.now hF.1 (rfl)))
    · refine step_op (Op.move (.tmp 22)) (some 159) [] th43.ns (by kernel_rfl) rfl (by kernel_rfl) (fun o ho hd hw l xs W hF hl hn K hK => ?_)
      have e1 := eval_o (xs := xs) (ns := th43.ns) h22
      exact value_ (v := .int .i64 (k : Nat)) (hw _) hd (w1 := W) (by simp only [execOp, ho, e1]; go_simp) (hK.out _ _ (hF.now hF.1 (rfl)))
    · refine step_op (Op.indexAddr 56 (.tmp 158) (.tmp 159)) (some 160) [0, 1] th43.ns (by kernel_rfl) rfl (by kernel_rfl) (fun o ho hd hw l xs W hF hl hn K hK => ?_)
      have e0 : (putZ a th43.ns 0 xs).eval (.tmp 158) = .slice (some aL) nL cL := (eval_z 0 (hsz 158 (by decide))).trans (hF.get 0 hn.1)
      have e1 : (putZ a th43.ns 0 xs).eval (.tmp 159) = .int .i64 (k : Nat) := (eval_z 1 (hsz 159 (by decide))).trans (hF.get 1 hn.2.1)
      exact value_ (v := .pointer (some (aL.add k))) (hw _) hd (w1 := W) (by simp only [Act.eval, Array.getD_eq_getD_getElem?] at e0 e1; simp only [execOp, ho]; go_simp) (hK.out _ _ (hF.now hF.1 rfl))
    · refine step_op (Op.load 47 (.tmp 160)) (some 161) [2] th43.ns (by kernel_rfl) rfl (by kernel_rfl) (fun o ho hd hw l xs W hF hl hn K hK => ?_)
      have e0 : (putZ a th43.ns 0 xs).eval (.tmp 160) = .pointer (some (aL.add k)) := (eval_z 2 (hsz 160 (by decide))).trans (hF.get 2 hn.1)
      have q0 := hcl W hF.1
      exact value_ (v := .slice AK nK cK) (hw _) hd (w1 := W) (by simp only [Act.eval, Array.getD_eq_getD_getElem?] at e0; simp only [execOp, ho]; go_simp) (hK.out _ _ (hF.now hF.1 rfl))
    · refine step_op (Op.move (.tmp 15)) (some 162) [] th43.ns (by kernel_rfl) rfl (by kernel_rfl) (fun o ho hd hw l xs W hF hl hn K hK => ?_)
      have e1 := eval_o (xs := xs) (ns := th43.ns) h15
      exact value_ (v := .slice (some ad) n cA) (hw _) hd (w1 := W) (by simp only [execOp, ho, e1]; go_simp) (hK.out _ _ (hF.now hF.1 (rfl)))
    · refine step_op (Op.move (.tmp 19)) (some 163) [] th43.ns (by kernel_rfl) rfl (by kernel_rfl) (fun o ho hd hw l xs W hF hl hn K hK => ?_)
      have e1 := eval_o (xs := xs) (ns := th43.ns) h19
      exact value_ (v := .int .i64 (j : Nat)) (hw _) hd (w1 := W) (by simp only [execOp, ho, e1]; go_simp) (hK.out _ _ (hF.now hF.1 (rfl)))
    · refine step_op (Op.indexAddr 26 (.tmp 162) (.tmp 163)) (some 164) [4, 5] th43.ns (by kernel_rfl) rfl (by kernel_rfl) (fun o ho hd hw l xs W hF hl hn K hK => ?_)
      have e0 : (putZ a th43.ns 0 xs).eval (.tmp 162) = .slice (some ad) n cA := (eval_z 4 (hsz 162 (by decide))).trans (hF.get 4 hn.1)
      have e1 : (putZ a th43.ns 0 xs).eval (.tmp 163) = .int .i64 (j : Nat) := (eval_z 5 (hsz 163 (by decide))).trans (hF.get 5 hn.2.1)
      exact value_ (v := .pointer (some (ad.add (j * 3)))) (hw _) hd (w1 := W) (by simp only [Act.eval, Array.getD_eq_getD_getElem?] at e0 e1; simp only [execOp, ho]; go_simp) (hK.out _ _ (hF.now hF.1 rfl))
    · refine step_op (Op.load 30 (.tmp 164)) (some 165) [6] th43.ns (by kernel_rfl) rfl (by kernel_rfl) (fun o ho hd hw l xs W hF hl hn K hK => ?_)
      have e0 : (putZ a th43.ns 0 xs).eval (.tmp 164) = .pointer (some (ad.add (j * 3))) := (eval_z 6 (hsz 164 (by decide))).trans (hF.get 6 hn.1)
      obtain ⟨q0, q1, q2⟩ := hcel W hF.1
      exact value_ (v := .agg #[.string y.f0, .string y.f1, .string y.f2]) (hw _) hd (w1 := W) (by simp only [Act.eval, Array.getD_eq_getD_getElem?] at e0; simp only [execOp, ho]; go_simp) (hK.out _ _ (hF.now hF.1 rfl))
    · refine step_op (Op.build 53 #[(0, .tmp 165), (1, .const (.bool true))]) (some 166) [7] th43.ns (by kernel_rfl) rfl (by kernel_rfl) (fun o ho hd hw l xs W hF hl hn K hK => ?_)
      have e0 : (putZ a th43.ns 0 xs).eval (.tmp 165) = .agg #[.string y.f0, .string y.f1, .string y.f2] := (eval_z 7 (hsz 165 (by decide))).trans (hF.get 7 hn.1)
      exact value_ (v := .agg #[.string y.f0, .string y.f1, .string y.f2, .bool true]) (hw _) hd (w1 := W) (by simp only [Act.eval, Array.getD_eq_getD_getElem?] at e0; simp only [execOp, ho]; go_simp) (hK.out _ _ (hF.now hF.1 rfl))
    · refine step_op (Op.call { callee := .value (.func 40), args := #[.tmp 161, .tmp 166], argTypes := #[47, 53] }) (some 167) [3, 8] th43.ns (by kernel_rfl) rfl (by kernel_rfl) (fun o ho hd hw l xs W hF hl hn K hK => ?_)
      have e0 : (putZ a th43.ns 0 xs).eval (.tmp 161) = .slice AK nK cK := (eval_z 3 (hsz 161 (by decide))).trans (hF.get 3 hn.1)
      have e1 : (putZ a th43.ns 0 xs).eval (.tmp 166) = .agg #[.string y.f0, .string y.f1, .string y.f2, .bool true] := (eval_z 8 (hsz 166 (by decide))).trans (hF.get 8 hn.2.1)
      refine goes_ Try.func40 (by kernel_rfl) rfl #[.slice AK nK cK, .agg #[.string y.f0, .string y.f1, .string y.f2, .bool true]] (hw _) hd ho (by simp only [List.map_toArray, List.map_cons, List.map_nil, e0, e1]) ?_
      refine (told_kn LK ⟨y, true⟩ AK nK cK W hnK (Kd.C_below hCK hF.1) hlK hbK).mono ?_
      rintro e W' ⟨rfl, hb⟩
      exact ⟨_, rfl, hK.out _ _ (hF.up (hF.1.trans (hb.mono hF.1.size)) (fun j v _ _ h => th43.mono j h hb) (rfl))⟩
    · refine step_op (Op.assign (.tmp 167)) (some 24) [9, 9, 0, 1, 2, 3, 4, 5, 6, 7, 8, 9] th43.ns (by kernel_rfl) rfl (by kernel_rfl) (fun o ho hd hw l xs W hF hl hn K hK => ?_)
      have e1 : (putZ a th43.ns 0 xs).eval (.tmp 167) = xs 9 := eval_z 9 (hsz 167 (by decide))
      exact value_ (v := xs 9) (hw _) hd (w1 := W) (by simp only [execOp, ho, e1]; go_simp) (hK.out _ _ (hF.now hF.1 (hF.get 9 hn.1)))
/-- A step that is passed over. -/
theorem step_ox {P : Program} {ops : Array Oper} {Q : Exit → Act → World → Prop} {T : List (List Nat × List Nat)} {a : Act} {F : (Nat → Bool) → (Nat → Value) → World → Prop} {i : Nat} (op : Op) (dst : Option Tmp) (g : Nat) (b : Bool) (t : Tmp) (js : List Nat) (ns : List (Option Tmp)) (hx : (ops[i]?).map (fun o => (o.op, o.dst, o.guard)) = some (op, dst, some (g, b))) (hgt : (ops[g]?).bind (·.dst) = some t) (hj : needsAt T i = js) (hns : ops.toList.map (·.dst) = ns)
    (h : ∀ l xs w, F l xs w → l i = false → AllOn l js → (putZ a ns 0 xs).eval (.tmp t) = .bool (!b) ∧ t < (putZ a ns 0 xs).tmps.size ∧ F (upd l i true) (upd xs i undef) w) : StepAt P ops Q T a F i := by
  intro o ho l xs w hF hl hn K hK
  rw [ho] at hx
  injection hx with hx
  injection hx with h1 h2
  injection h2 with h2 h3
  subst hns
  subst hj
  subst h2
  obtain ⟨he, ht, hF2⟩ := h l xs w hF hl hn
  rw [if_neg]
  · exact hK.out _ _ hF2
  · unfold Region.wanted
    rw [h3]
    show ¬ (yielded ops (putZ a (ops.toList.map (·.dst)) 0 xs).tmps g == some b) = true
    unfold yielded
    rw [hgt]
    have h4 : (putZ a (ops.toList.map (·.dst)) 0 xs).tmps[t]? = some (.bool (!b)) := by
      simp only [Act.eval, Array.getD_eq_getD_getElem?] at he
      rw [Array.getElem?_eq_getElem ht] at he ⊢
      simpa using he
    cases b <;> simp [h4]
abbrev th47tf.ns : List (Option Tmp) := [some 193, some 194, some 195, some 196, some 197, some 198, some 199, some 200, some 201, some 202, some 203, some 204, some 205, some 206, some 207, some 208, some 209, some 210, some 211, some 212, some 213, some 214, some 215, some 216, some 217, some 218, some 219, some 220, some 221, some 222, some 223, some 224, some 225, some 226, some 227, some 228, some 229]
def th47tf.T : Bool × List (List Nat × List Nat) := (true, [([], []), ([], []), ([], []), ([1, 2], [1, 2]), ([3], [3]), ([], []), ([4, 5], [4, 5]), ([0, 6], [0, 6]), ([7], [7]), ([8, 7], [8]), ([9], [9]), ([9], [9]), ([10, 11, 9], [9, 10, 11]), ([9, 12], [9, 12]), ([13, 9], [13]), ([14], [14]), ([14], [14]), ([15, 16, 14], [14, 15, 16]), ([17, 14, 14], [14, 17]), ([18], [18]), ([18], [18]), ([18], [18]), ([20, 21, 18], [18, 20, 21]), ([22, 18], [18, 22]), ([23, 18], [18, 23]), ([19, 24, 18, 18], [18, 19, 24]), ([18], [18]), ([18], [18]), ([18], [18]), ([27, 28, 18], [18, 27, 28]), ([29, 18], [18, 29]), ([30, 18], [18, 30]), ([26, 31, 25, 18], [18, 26, 31]), ([25, 32, 18], [18, 25, 32]), ([33, 18], [18, 33]), ([18, 34, 14], [14, 18, 34]), ([14, 35], [14, 35])])
theorem th47tf.tab : rtab .any (opsOf Try.f11 47) = th47tf.T := by kernel_rfl
def th47tf.V (y : Tri) (ad : Addr) (n cA j : Nat) (AW : Option Addr) (nW cW : Nat) : Nat → Value → World → Prop
  | 0 => IsV (.slice AW nW cW)
  | 1 => IsV (.slice (some ad) n cA)
  | 2 => IsV (.int .i64 (j : Nat))
  | 3 => IsV (.pointer (some (ad.add (j * 3))))
  | 4 => IsV (.agg #[.string y.f0, .string y.f1, .string y.f2])
  | 5 => IsV (.bool true)
  | 6 => IsV (.agg #[.string y.f0, .string y.f1, .string y.f2, .bool true])
  | 7 => IsV (.int .i64 1)
  | 8 => IsV (.bool false)
  | 9 => IsV (.bool false)
  | 10 => IsV (undef)
  | 11 => IsV (undef)
  | 12 => IsV (undef)
  | 13 => IsV (.bool false)
  | 14 => IsV (.bool false)
  | 15 => IsV (.bool true)
  | 16 => IsV (.bool false)
  | 17 => IsV (.bool false)
  | 18 => IsV (.bool false)
  | 19 => IsV (undef)
  | 20 => IsV (undef)
  | 21 => IsV (undef)
  | 22 => IsV (undef)
  | 23 => IsV (undef)
  | 24 => IsV (undef)
  | 25 => IsV (undef)
  | 26 => IsV (undef)
  | 27 => IsV (undef)
  | 28 => IsV (undef)
  | 29 => IsV (undef)
  | 30 => IsV (undef)
  | 31 => IsV (undef)
  | 32 => IsV (undef)
  | 33 => IsV (undef)
  | 34 => IsV (undef)
  | 35 => IsV (.bool false)
  | 36 => IsV (.bool false)
  | _ => fun _ _ => True
theorem th47tf.mono {y : Tri} {ad : Addr} {n cA j : Nat} {AW : Option Addr} {nW cW : Nat} : ∀ (j_ : Nat) {v : Value} {W W' : World}, th47tf.V y ad n cA j AW nW cW j_ v W → Below W.heap.size W W' → th47tf.V y ad n cA j AW nW cW j_ v W'
  | 0, _, _, _, h, hb => h
  | 1, _, _, _, h, hb => h
  | 2, _, _, _, h, hb => h
  | 3, _, _, _, h, hb => h
  | 4, _, _, _, h, hb => h
  | 5, _, _, _, h, hb => h
  | 6, _, _, _, h, hb => h
  | 7, _, _, _, h, hb => h
  | 8, _, _, _, h, hb => h
  | 9, _, _, _, h, hb => h
  | 10, _, _, _, h, hb => h
  | 11, _, _, _, h, hb => h
  | 12, _, _, _, h, hb => h
  | 13, _, _, _, h, hb => h
  | 14, _, _, _, h, hb => h
  | 15, _, _, _, h, hb => h
  | 16, _, _, _, h, hb => h
  | 17, _, _, _, h, hb => h
  | 18, _, _, _, h, hb => h
  | 19, _, _, _, h, hb => h
  | 20, _, _, _, h, hb => h
  | 21, _, _, _, h, hb => h
  | 22, _, _, _, h, hb => h
  | 23, _, _, _, h, hb => h
  | 24, _, _, _, h, hb => h
  | 25, _, _, _, h, hb => h
  | 26, _, _, _, h, hb => h
  | 27, _, _, _, h, hb => h
  | 28, _, _, _, h, hb => h
  | 29, _, _, _, h, hb => h
  | 30, _, _, _, h, hb => h
  | 31, _, _, _, h, hb => h
  | 32, _, _, _, h, hb => h
  | 33, _, _, _, h, hb => h
  | 34, _, _, _, h, hb => h
  | 35, _, _, _, h, hb => h
  | 36, _, _, _, h, hb => h
  | n + 37, _, _, _, _, _ => trivial
set_option maxRecDepth 100000 in
set_option maxHeartbeats 2000000 in
theorem th47tf.region {Q : Exit → Act → World → Prop} {id : Nat} {a : Act} {w : World} (y : Tri) (ad : Addr) (n cA j : Nat) (AW : Option Addr) (nW cW : Nat) (i0 : (0 : Int) ≤ (j : Int)) (i1 : (j : Int) < (n : Int)) (hcel : ∀ W, Below w.heap.size w W → W.cell? (ad.add (j * 3)) = some (.string y.f0) ∧ W.cell? ⟨(ad.add (j * 3)).block, (ad.add (j * 3)).off + 1, none⟩ = some (.string y.f1) ∧ W.cell? ⟨(ad.add (j * 3)).block, (ad.add (j * 3)).off + 2, none⟩ = some (.string y.f2)) (hTb : ∀ W, Below w.heap.size w W → Calls Try.prog 40 #[.slice AW nW cW, .agg #[.string y.f0, .string y.f1, .string y.f2, .bool true]] W fun e W' => e = .returned (.int .i64 1) ∧ Below W.heap.size W W') (hm : Try.prog.follows .mixedOrders = true) (hs : a.tmps.size = 230)  (h14 : a.eval (.tmp 14) = .slice AW nW cW) (h15 : a.eval (.tmp 15) = .slice (some ad) n cA) (h19 : a.eval (.tmp 19) = .int .i64 (j : Nat)) (h20 : a.eval (.tmp 20) = .bool true) (h21 : a.eval (.tmp 21) = .bool false)
    (hdone : ∀ (xs : Nat → Value) (W : World), Below w.heap.size w W → IsV (.bool false) (xs 36) W → Q .normal (putZ a th47tf.ns 0 xs) W) :
    (Code.region id (opsOf Try.f11 47) true).wp Try.prog Q a w := by
  refine region_pred (T := th47tf.T) 37 (fun _ W => Below w.heap.size w W) (th47tf.V y ad n cA j AW nW cW) hm (by kernel_rfl) th47tf.tab (by kernel_rfl) (by kernel_rfl) (below_drew (Below.refl _ _)) (fun _ h => h) ?hsteps ?hd
  case hd => exact fun xs W hI hV => hdone xs W hI (hV 36 (by decide))
  case hsteps =>
    have hsz : ∀ t, t < 230 → t < a.tmps.size := fun t ht => by rw [hs]; exact ht
    refine ⟨?_, ?_, ?_, ?_, ?_, ?_, ?_, ?_, ?_, ?_, ?_, ?_, ?_, ?_, ?_, ?_, ?_, ?_, ?_, ?_, ?_, ?_, ?_, ?_, ?_, ?_, ?_, ?_, ?_, ?_, ?_, ?_, ?_, ?_, ?_, ?_, ?_, trivial⟩
    · refine step_op (Op.move (.tmp 14)) (some 193) [] th47tf.ns (by kernel_rfl) rfl (by kernel_rfl) (fun o ho hd hw l xs W hF hl hn K hK => ?_)
      have e1 := eval_o (xs := xs) (ns := th47tf.ns) h14
      exact value_ (v := .slice AW nW cW) (hw _) hd (w1 := W) (by simp only [execOp, ho, e1]; go_simp) (hK.out _ _ (hF.now hF.1 (rfl)))
    · refine step_op (Op.move (.tmp 15)) (some 194) [] th47tf.ns (by kernel_rfl) rfl (by kernel_rfl) (fun o ho hd hw l xs W hF hl hn K hK => ?_)
      have e1 := eval_o (xs := xs) (ns := th47tf.ns) h15
      exact value_ (v := .slice (some ad) n cA) (hw _) hd (w1 := W) (by simp only [execOp, ho, e1]; go_simp) (hK.out _ _ (hF.now hF.1 (rfl)))
    · refine step_op (Op.move (.tmp 19)) (some 195) [] th47tf.ns (by kernel_rfl) rfl (by kernel_rfl) (fun o ho hd hw l xs W hF hl hn K hK => ?_)
      have e1 := eval_o (xs := xs) (ns := th47tf.ns) h19
      exact value_ (v := .int .i64 (j : Nat)) (hw _) hd (w1 := W) (by simp only [execOp, ho, e1]; go_simp) (hK.out _ _ (hF.now hF.1 (rfl)))
    · refine step_op (Op.indexAddr 26 (.tmp 194) (.tmp 195)) (some 196) [1, 2] th47tf.ns (by kernel_rfl) rfl (by kernel_rfl) (fun o ho hd hw l xs W hF hl hn K hK => ?_)
      have e0 : (putZ a th47tf.ns 0 xs).eval (.tmp 194) = .slice (some ad) n cA := (eval_z 1 (hsz 194 (by decide))).trans (hF.get 1 hn.1)
      have e1 : (putZ a th47tf.ns 0 xs).eval (.tmp 195) = .int .i64 (j : Nat) := (eval_z 2 (hsz 195 (by decide))).trans (hF.get 2 hn.2.1)
      exact value_ (v := .pointer (some (ad.add (j * 3)))) (hw _) hd (w1 := W) (by simp only [Act.eval, Array.getD_eq_getD_getElem?] at e0 e1; simp only [execOp, ho]; go_simp) (hK.out _ _ (hF.now hF.1 rfl))
    · refine step_op (Op.load 30 (.tmp 196)) (some 197) [3] th47tf.ns (by kernel_rfl) rfl (by kernel_rfl) (fun o ho hd hw l xs W hF hl hn K hK => ?_)
      have e0 : (putZ a th47tf.ns 0 xs).eval (.tmp 196) = .pointer (some (ad.add (j * 3))) := (eval_z 3 (hsz 196 (by decide))).trans (hF.get 3 hn.1)
      obtain ⟨q0, q1, q2⟩ := hcel W hF.1
      exact value_ (v := .agg #[.string y.f0, .string y.f1, .string y.f2]) (hw _) hd (w1 := W) (by simp only [Act.eval, Array.getD_eq_getD_getElem?] at e0; simp only [execOp, ho]; go_simp) (hK.out _ _ (hF.now hF.1 rfl))
    · refine step_op (Op.move (.tmp 20)) (some 198) [] th47tf.ns (by kernel_rfl) rfl (by kernel_rfl) (fun o ho hd hw l xs W hF hl hn K hK => ?_)
      have e1 := eval_o (xs := xs) (ns := th47tf.ns) h20
      exact value_ (v := .bool true) (hw _) hd (w1 := W) (by simp only [execOp, ho, e1]; go_simp) (hK.out _ _ (hF.now hF.1 (rfl)))
    · refine step_op (Op.build 53 #[(0, .tmp 197), (1, .tmp 198)]) (some 199) [4, 5] th47tf.ns (by kernel_rfl) rfl (by kernel_rfl) (fun o ho hd hw l xs W hF hl hn K hK => ?_)
      have e0 : (putZ a th47tf.ns 0 xs).eval (.tmp 197) = .agg #[.string y.f0, .string y.f1, .string y.f2] := (eval_z 4 (hsz 197 (by decide))).trans (hF.get 4 hn.1)
      have e1 : (putZ a th47tf.ns 0 xs).eval (.tmp 198) = .bool true := (eval_z 5 (hsz 198 (by decide))).trans (hF.get 5 hn.2.1)
      exact value_ (v := .agg #[.string y.f0, .string y.f1, .string y.f2, .bool true]) (hw _) hd (w1 := W) (by simp only [Act.eval, Array.getD_eq_getD_getElem?] at e0 e1; simp only [execOp, ho]; go_simp) (hK.out _ _ (hF.now hF.1 rfl))
    · refine step_op (Op.call { callee := .value (.func 40), args := #[.tmp 193, .tmp 199], argTypes := #[47, 53] }) (some 200) [0, 6] th47tf.ns (by kernel_rfl) rfl (by kernel_rfl) (fun o ho hd hw l xs W hF hl hn K hK => ?_)
      have e0 : (putZ a th47tf.ns 0 xs).eval (.tmp 193) = .slice AW nW cW := (eval_z 0 (hsz 193 (by decide))).trans (hF.get 0 hn.1)
      have e1 : (putZ a th47tf.ns 0 xs).eval (.tmp 199) = .agg #[.string y.f0, .string y.f1, .string y.f2, .bool true] := (eval_z 6 (hsz 199 (by decide))).trans (hF.get 6 hn.2.1)
      refine goes_ Try.func40 (by kernel_rfl) rfl #[.slice AW nW cW, .agg #[.string y.f0, .string y.f1, .string y.f2, .bool true]] (hw _) hd ho (by simp only [List.map_toArray, List.map_cons, List.map_nil, e0, e1]) ?_
      refine (hTb W hF.1).mono ?_
      rintro e W' ⟨rfl, hb⟩
      exact ⟨_, rfl, hK.out _ _ (hF.up (hF.1.trans (hb.mono hF.1.size)) (fun j v _ _ h => th47tf.mono j h hb) (rfl))⟩
    · refine step_op (Op.binOp .neq 3 (.tmp 200) (.const (.int .i64 1)) 3) (some 201) [7] th47tf.ns (by kernel_rfl) rfl (by kernel_rfl) (fun o ho hd hw l xs W hF hl hn K hK => ?_)
      have e0 : (putZ a th47tf.ns 0 xs).eval (.tmp 200) = .int .i64 1 := (eval_z 7 (hsz 200 (by decide))).trans (hF.get 7 hn.1)
      exact value_ (v := .bool false) (hw _) hd (w1 := W) (by simp only [Act.eval, Array.getD_eq_getD_getElem?] at e0; simp only [execOp, ho]; go_simp) (hK.out _ _ (hF.now hF.1 rfl))
    · refine step_op (Op.move (.tmp 201)) (some 202) [8, 7] th47tf.ns (by kernel_rfl) rfl (by kernel_rfl) (fun o ho hd hw l xs W hF hl hn K hK => ?_)
      have e1 : (putZ a th47tf.ns 0 xs).eval (.tmp 201) = xs 8 := eval_z 8 (hsz 201 (by decide))
      exact value_ (v := xs 8) (hw _) hd (w1 := W) (by simp only [execOp, ho, e1]; go_simp) (hK.out _ _ (hF.now hF.1 (hF.get 8 hn.1)))
    · exact step_ox (Op.move (.tmp 20)) (some 203) 9 true 202 [9] th47tf.ns (by kernel_rfl) (by kernel_rfl) rfl (by kernel_rfl) (fun l xs W hF hl hn => ⟨(eval_z 9 (hsz 202 (by decide))).trans (hF.get 9 hn.1), by rw [putZ_size]; exact hsz 202 (by decide), hF.now hF.1 rfl⟩)
    · exact step_ox (Op.move (.tmp 21)) (some 204) 9 true 202 [9] th47tf.ns (by kernel_rfl) (by kernel_rfl) rfl (by kernel_rfl) (fun l xs W hF hl hn => ⟨(eval_z 9 (hsz 202 (by decide))).trans (hF.get 9 hn.1), by rw [putZ_size]; exact hsz 202 (by decide), hF.now hF.1 rfl⟩)
    · exact step_ox (Op.binOp .neq 4 (.tmp 203) (.tmp 204) 4) (some 205) 9 true 202 [10, 11, 9] th47tf.ns (by kernel_rfl) (by kernel_rfl) rfl (by kernel_rfl) (fun l xs W hF hl hn => ⟨(eval_z 9 (hsz 202 (by decide))).trans (hF.get 9 hn.2.2.1), by rw [putZ_size]; exact hsz 202 (by decide), hF.now hF.1 rfl⟩)
    · refine step_op (Op.pick (.tmp 202) (.tmp 205) (.const (.bool false))) (some 206) [9, 12] th47tf.ns (by kernel_rfl) rfl (by kernel_rfl) (fun o ho hd hw l xs W hF hl hn K hK => ?_)
      have e0 : (putZ a th47tf.ns 0 xs).eval (.tmp 202) = .bool false := (eval_z 9 (hsz 202 (by decide))).trans (hF.get 9 hn.1)
      have e1 : (putZ a th47tf.ns 0 xs).eval (.tmp 205) = undef := (eval_z 12 (hsz 205 (by decide))).trans (hF.get 12 hn.2.1)
      exact value_ (v := .bool false) (hw _) hd (w1 := W) (by simp only [Act.eval, Array.getD_eq_getD_getElem?] at e0 e1; simp only [execOp, ho]; go_simp) (hK.out _ _ (hF.now hF.1 rfl))
    · refine step_op (Op.move (.tmp 206)) (some 207) [13, 9] th47tf.ns (by kernel_rfl) rfl (by kernel_rfl) (fun o ho hd hw l xs W hF hl hn K hK => ?_)
      have e1 : (putZ a th47tf.ns 0 xs).eval (.tmp 206) = xs 13 := eval_z 13 (hsz 206 (by decide))
      exact value_ (v := xs 13) (hw _) hd (w1 := W) (by simp only [execOp, ho, e1]; go_simp) (hK.out _ _ (hF.now hF.1 (hF.get 13 hn.1)))
    · refine step_og (Op.move (.tmp 20)) (some 208) 14 false 207 [14] th47tf.ns (by kernel_rfl) (by kernel_rfl) rfl (by kernel_rfl) (fun o ho hd hw0 l xs W hF hl hn K hK => ?_)
      have eg : (putZ a th47tf.ns 0 xs).eval (.tmp 207) = .bool false := (eval_z 14 (hsz 207 (by decide))).trans (hF.get 14 hn.1)
      have hw := hw0 (putZ a th47tf.ns 0 xs) (by rw [putZ_size]; exact hsz 207 (by decide)) eg
      have e1 := eval_o (xs := xs) (ns := th47tf.ns) h20
      exact value_ (v := .bool true) hw hd (w1 := W) (by simp only [execOp, ho, e1]; go_simp) (hK.out _ _ (hF.now hF.1 (rfl)))
    · refine step_og (Op.move (.tmp 21)) (some 209) 14 false 207 [14] th47tf.ns (by kernel_rfl) (by kernel_rfl) rfl (by kernel_rfl) (fun o ho hd hw0 l xs W hF hl hn K hK => ?_)
      have eg : (putZ a th47tf.ns 0 xs).eval (.tmp 207) = .bool false := (eval_z 14 (hsz 207 (by decide))).trans (hF.get 14 hn.1)
      have hw := hw0 (putZ a th47tf.ns 0 xs) (by rw [putZ_size]; exact hsz 207 (by decide)) eg
      have e1 := eval_o (xs := xs) (ns := th47tf.ns) h21
      exact value_ (v := .bool false) hw hd (w1 := W) (by simp only [execOp, ho, e1]; go_simp) (hK.out _ _ (hF.now hF.1 (rfl)))
    · refine step_og (Op.binOp .eql 4 (.tmp 208) (.tmp 209) 4) (some 210) 14 false 207 [15, 16, 14] th47tf.ns (by kernel_rfl) (by kernel_rfl) rfl (by kernel_rfl) (fun o ho hd hw0 l xs W hF hl hn K hK => ?_)
      have eg : (putZ a th47tf.ns 0 xs).eval (.tmp 207) = .bool false := (eval_z 14 (hsz 207 (by decide))).trans (hF.get 14 hn.2.2.1)
      have hw := hw0 (putZ a th47tf.ns 0 xs) (by rw [putZ_size]; exact hsz 207 (by decide)) eg
      have e0 : (putZ a th47tf.ns 0 xs).eval (.tmp 208) = .bool true := (eval_z 15 (hsz 208 (by decide))).trans (hF.get 15 hn.1)
      have e1 : (putZ a th47tf.ns 0 xs).eval (.tmp 209) = .bool false := (eval_z 16 (hsz 209 (by decide))).trans (hF.get 16 hn.2.1)
      exact value_ (v := .bool false) hw hd (w1 := W) (by simp only [Act.eval, Array.getD_eq_getD_getElem?] at e0 e1; simp only [execOp, ho]; go_simp) (hK.out _ _ (hF.now hF.1 rfl))
    · refine step_og (Op.move (.tmp 210)) (some 211) 14 false 207 [17, 14, 14] th47tf.ns (by kernel_rfl) (by kernel_rfl) rfl (by kernel_rfl) (fun o ho hd hw0 l xs W hF hl hn K hK => ?_)
      have eg : (putZ a th47tf.ns 0 xs).eval (.tmp 207) = .bool false := (eval_z 14 (hsz 207 (by decide))).trans (hF.get 14 hn.2.1)
      have hw := hw0 (putZ a th47tf.ns 0 xs) (by rw [putZ_size]; exact hsz 207 (by decide)) eg
      have e1 : (putZ a th47tf.ns 0 xs).eval (.tmp 210) = xs 17 := eval_z 17 (hsz 210 (by decide))
      exact value_ (v := xs 17) hw hd (w1 := W) (by simp only [execOp, ho, e1]; go_simp) (hK.out _ _ (hF.now hF.1 (hF.get 17 hn.1)))
    · exact step_ox (Op.move (.tmp 14)) (some 212) 18 true 211 [18] th47tf.ns (by kernel_rfl) (by kernel_rfl) rfl (by kernel_rfl) (fun l xs W hF hl hn => ⟨(eval_z 18 (hsz 211 (by decide))).trans (hF.get 18 hn.1), by rw [putZ_size]; exact hsz 211 (by decide), hF.now hF.1 rfl⟩)
    · exact step_ox (Op.move (.tmp 15)) (some 213) 18 true 211 [18] th47tf.ns (by kernel_rfl) (by kernel_rfl) rfl (by kernel_rfl) (fun l xs W hF hl hn => ⟨(eval_z 18 (hsz 211 (by decide))).trans (hF.get 18 hn.1), by rw [putZ_size]; exact hsz 211 (by decide), hF.now hF.1 rfl⟩)
    · exact step_ox (Op.move (.tmp 19)) (some 214) 18 true 211 [18] th47tf.ns (by kernel_rfl) (by kernel_rfl) rfl (by kernel_rfl) (fun l xs W hF hl hn => ⟨(eval_z 18 (hsz 211 (by decide))).trans (hF.get 18 hn.1), by rw [putZ_size]; exact hsz 211 (by decide), hF.now hF.1 rfl⟩)
    · exact step_ox (Op.indexAddr 26 (.tmp 213) (.tmp 214)) (some 215) 18 true 211 [20, 21, 18] th47tf.ns (by kernel_rfl) (by kernel_rfl) rfl (by kernel_rfl) (fun l xs W hF hl hn => ⟨(eval_z 18 (hsz 211 (by decide))).trans (hF.get 18 hn.2.2.1), by rw [putZ_size]; exact hsz 211 (by decide), hF.now hF.1 rfl⟩)
    · exact step_ox (Op.load 30 (.tmp 215)) (some 216) 18 true 211 [22, 18] th47tf.ns (by kernel_rfl) (by kernel_rfl) rfl (by kernel_rfl) (fun l xs W hF hl hn => ⟨(eval_z 18 (hsz 211 (by decide))).trans (hF.get 18 hn.2.1), by rw [putZ_size]; exact hsz 211 (by decide), hF.now hF.1 rfl⟩)
    · exact step_ox (Op.build 53 #[(0, .tmp 216)]) (some 217) 18 true 211 [23, 18] th47tf.ns (by kernel_rfl) (by kernel_rfl) rfl (by kernel_rfl) (fun l xs W hF hl hn => ⟨(eval_z 18 (hsz 211 (by decide))).trans (hF.get 18 hn.2.1), by rw [putZ_size]; exact hsz 211 (by decide), hF.now hF.1 rfl⟩)
    · exact step_ox (Op.call { callee := .value (.func 40), args := #[.tmp 212, .tmp 217], argTypes := #[47, 53] }) (some 218) 18 true 211 [19, 24, 18, 18] th47tf.ns (by kernel_rfl) (by kernel_rfl) rfl (by kernel_rfl) (fun l xs W hF hl hn => ⟨(eval_z 18 (hsz 211 (by decide))).trans (hF.get 18 hn.2.2.1), by rw [putZ_size]; exact hsz 211 (by decide), hF.now hF.1 rfl⟩)
    · exact step_ox (Op.move (.tmp 14)) (some 219) 18 true 211 [18] th47tf.ns (by kernel_rfl) (by kernel_rfl) rfl (by kernel_rfl) (fun l xs W hF hl hn => ⟨(eval_z 18 (hsz 211 (by decide))).trans (hF.get 18 hn.1), by rw [putZ_size]; exact hsz 211 (by decide), hF.now hF.1 rfl⟩)
    · exact step_ox (Op.move (.tmp 15)) (some 220) 18 true 211 [18] th47tf.ns (by kernel_rfl) (by kernel_rfl) rfl (by kernel_rfl) (fun l xs W hF hl hn => ⟨(eval_z 18 (hsz 211 (by decide))).trans (hF.get 18 hn.1), by rw [putZ_size]; exact hsz 211 (by decide), hF.now hF.1 rfl⟩)
    · exact step_ox (Op.move (.tmp 19)) (some 221) 18 true 211 [18] th47tf.ns (by kernel_rfl) (by kernel_rfl) rfl (by kernel_rfl) (fun l xs W hF hl hn => ⟨(eval_z 18 (hsz 211 (by decide))).trans (hF.get 18 hn.1), by rw [putZ_size]; exact hsz 211 (by decide), hF.now hF.1 rfl⟩)
    · exact step_ox (Op.indexAddr 26 (.tmp 220) (.tmp 221)) (some 222) 18 true 211 [27, 28, 18] th47tf.ns (by kernel_rfl) (by kernel_rfl) rfl (by kernel_rfl) (fun l xs W hF hl hn => ⟨(eval_z 18 (hsz 211 (by decide))).trans (hF.get 18 hn.2.2.1), by rw [putZ_size]; exact hsz 211 (by decide), hF.now hF.1 rfl⟩)
    · exact step_ox (Op.load 30 (.tmp 222)) (some 223) 18 true 211 [29, 18] th47tf.ns (by kernel_rfl) (by kernel_rfl) rfl (by kernel_rfl) (fun l xs W hF hl hn => ⟨(eval_z 18 (hsz 211 (by decide))).trans (hF.get 18 hn.2.1), by rw [putZ_size]; exact hsz 211 (by decide), hF.now hF.1 rfl⟩)
    · exact step_ox (Op.build 53 #[(0, .tmp 223), (1, .const (.bool true))]) (some 224) 18 true 211 [30, 18] th47tf.ns (by kernel_rfl) (by kernel_rfl) rfl (by kernel_rfl) (fun l xs W hF hl hn => ⟨(eval_z 18 (hsz 211 (by decide))).trans (hF.get 18 hn.2.1), by rw [putZ_size]; exact hsz 211 (by decide), hF.now hF.1 rfl⟩)
    · exact step_ox (Op.call { callee := .value (.func 40), args := #[.tmp 219, .tmp 224], argTypes := #[47, 53] }) (some 225) 18 true 211 [26, 31, 25, 18] th47tf.ns (by kernel_rfl) (by kernel_rfl) rfl (by kernel_rfl) (fun l xs W hF hl hn => ⟨(eval_z 18 (hsz 211 (by decide))).trans (hF.get 18 hn.2.2.2.1), by rw [putZ_size]; exact hsz 211 (by decide), hF.now hF.1 rfl⟩)
    · exact step_ox (Op.binOp .add 3 (.tmp 218) (.tmp 225) 3) (some 226) 18 true 211 [25, 32, 18] th47tf.ns (by kernel_rfl) (by kernel_rfl) rfl (by kernel_rfl) (fun l xs W hF hl hn => ⟨(eval_z 18 (hsz 211 (by decide))).trans (hF.get 18 hn.2.2.1), by rw [putZ_size]; exact hsz 211 (by decide), hF.now hF.1 rfl⟩)
    · exact step_ox (Op.binOp .neq 3 (.tmp 226) (.const (.int .i64 0)) 3) (some 227) 18 true 211 [33, 18] th47tf.ns (by kernel_rfl) (by kernel_rfl) rfl (by kernel_rfl) (fun l xs W hF hl hn => ⟨(eval_z 18 (hsz 211 (by decide))).trans (hF.get 18 hn.2.1), by rw [putZ_size]; exact hsz 211 (by decide), hF.now hF.1 rfl⟩)
    · refine step_og (Op.pick (.tmp 211) (.tmp 227) (.const (.bool false))) (some 228) 14 false 207 [18, 34, 14] th47tf.ns (by kernel_rfl) (by kernel_rfl) rfl (by kernel_rfl) (fun o ho hd hw0 l xs W hF hl hn K hK => ?_)
      have eg : (putZ a th47tf.ns 0 xs).eval (.tmp 207) = .bool false := (eval_z 14 (hsz 207 (by decide))).trans (hF.get 14 hn.2.2.1)
      have hw := hw0 (putZ a th47tf.ns 0 xs) (by rw [putZ_size]; exact hsz 207 (by decide)) eg
      have e0 : (putZ a th47tf.ns 0 xs).eval (.tmp 211) = .bool false := (eval_z 18 (hsz 211 (by decide))).trans (hF.get 18 hn.1)
      have e1 : (putZ a th47tf.ns 0 xs).eval (.tmp 227) = undef := (eval_z 34 (hsz 227 (by decide))).trans (hF.get 34 hn.2.1)
      exact value_ (v := .bool false) hw hd (w1 := W) (by simp only [Act.eval, Array.getD_eq_getD_getElem?] at e0 e1; simp only [execOp, ho]; go_simp) (hK.out _ _ (hF.now hF.1 rfl))
    · refine step_op (Op.pick (.tmp 207) (.const (.bool true)) (.tmp 228)) (some 229) [14, 35] th47tf.ns (by kernel_rfl) rfl (by kernel_rfl) (fun o ho hd hw l xs W hF hl hn K hK => ?_)
      have e0 : (putZ a th47tf.ns 0 xs).eval (.tmp 207) = .bool false := (eval_z 14 (hsz 207 (by decide))).trans (hF.get 14 hn.1)
      have e1 : (putZ a th47tf.ns 0 xs).eval (.tmp 228) = .bool false := (eval_z 35 (hsz 228 (by decide))).trans (hF.get 35 hn.2.1)
      exact value_ (v := .bool false) (hw _) hd (w1 := W) (by simp only [Act.eval, Array.getD_eq_getD_getElem?] at e0 e1; simp only [execOp, ho]; go_simp) (hK.out _ _ (hF.now hF.1 rfl))
abbrev th47ft.ns : List (Option Tmp) := [some 193, some 194, some 195, some 196, some 197, some 198, some 199, some 200, some 201, some 202, some 203, some 204, some 205, some 206, some 207, some 208, some 209, some 210, some 211, some 212, some 213, some 214, some 215, some 216, some 217, some 218, some 219, some 220, some 221, some 222, some 223, some 224, some 225, some 226, some 227, some 228, some 229]
def th47ft.T : Bool × List (List Nat × List Nat) := (true, [([], []), ([], []), ([], []), ([1, 2], [1, 2]), ([3], [3]), ([], []), ([4, 5], [4, 5]), ([0, 6], [0, 6]), ([7], [7]), ([8, 7], [8]), ([9], [9]), ([9], [9]), ([10, 11, 9], [9, 10, 11]), ([9, 12], [9, 12]), ([13, 9], [13]), ([14], [14]), ([14], [14]), ([15, 16, 14], [14, 15, 16]), ([17, 14, 14], [14, 17]), ([18], [18]), ([18], [18]), ([18], [18]), ([20, 21, 18], [18, 20, 21]), ([22, 18], [18, 22]), ([23, 18], [18, 23]), ([19, 24, 18, 18], [18, 19, 24]), ([18], [18]), ([18], [18]), ([18], [18]), ([27, 28, 18], [18, 27, 28]), ([29, 18], [18, 29]), ([30, 18], [18, 30]), ([26, 31, 25, 18], [18, 26, 31]), ([25, 32, 18], [18, 25, 32]), ([33, 18], [18, 33]), ([18, 34, 14], [14, 18, 34]), ([14, 35], [14, 35])])
theorem th47ft.tab : rtab .any (opsOf Try.f11 47) = th47ft.T := by kernel_rfl
def th47ft.V (y : Tri) (ad : Addr) (n cA j : Nat) (AW : Option Addr) (nW cW : Nat) : Nat → Value → World → Prop
  | 0 => IsV (.slice AW nW cW)
  | 1 => IsV (.slice (some ad) n cA)
  | 2 => IsV (.int .i64 (j : Nat))
  | 3 => IsV (.pointer (some (ad.add (j * 3))))
  | 4 => IsV (.agg #[.string y.f0, .string y.f1, .string y.f2])
  | 5 => IsV (.bool false)
  | 6 => IsV (.agg #[.string y.f0, .string y.f1, .string y.f2, .bool false])
  | 7 => IsV (.int .i64 1)
  | 8 => IsV (.bool false)
  | 9 => IsV (.bool false)
  | 10 => IsV (undef)
  | 11 => IsV (undef)
  | 12 => IsV (undef)
  | 13 => IsV (.bool false)
  | 14 => IsV (.bool false)
  | 15 => IsV (.bool false)
  | 16 => IsV (.bool true)
  | 17 => IsV (.bool false)
  | 18 => IsV (.bool false)
  | 19 => IsV (undef)
  | 20 => IsV (undef)
  | 21 => IsV (undef)
  | 22 => IsV (undef)
  | 23 => IsV (undef)
  | 24 => IsV (undef)
  | 25 => IsV (undef)
  | 26 => IsV (undef)
  | 27 => IsV (undef)
  | 28 => IsV (undef)
  | 29 => IsV (undef)
  | 30 => IsV (undef)
  | 31 => IsV (undef)
  | 32 => IsV (undef)
  | 33 => IsV (undef)
  | 34 => IsV (undef)
  | 35 => IsV (.bool false)
  | 36 => IsV (.bool false)
  | _ => fun _ _ => True
theorem th47ft.mono {y : Tri} {ad : Addr} {n cA j : Nat} {AW : Option Addr} {nW cW : Nat} : ∀ (j_ : Nat) {v : Value} {W W' : World}, th47ft.V y ad n cA j AW nW cW j_ v W → Below W.heap.size W W' → th47ft.V y ad n cA j AW nW cW j_ v W'
  | 0, _, _, _, h, hb => h
  | 1, _, _, _, h, hb => h
  | 2, _, _, _, h, hb => h
  | 3, _, _, _, h, hb => h
  | 4, _, _, _, h, hb => h
  | 5, _, _, _, h, hb => h
  | 6, _, _, _, h, hb => h
  | 7, _, _, _, h, hb => h
  | 8, _, _, _, h, hb => h
  | 9, _, _, _, h, hb => h
  | 10, _, _, _, h, hb => h
  | 11, _, _, _, h, hb => h
  | 12, _, _, _, h, hb => h
  | 13, _, _, _, h, hb => h
  | 14, _, _, _, h, hb => h
  | 15, _, _, _, h, hb => h
  | 16, _, _, _, h, hb => h
  | 17, _, _, _, h, hb => h
  | 18, _, _, _, h, hb => h
  | 19, _, _, _, h, hb => h
  | 20, _, _, _, h, hb => h
  | 21, _, _, _, h, hb => h
  | 22, _, _, _, h, hb => h
  | 23, _, _, _, h, hb => h
  | 24, _, _, _, h, hb => h
  | 25, _, _, _, h, hb => h
  | 26, _, _, _, h, hb => h
  | 27, _, _, _, h, hb => h
  | 28, _, _, _, h, hb => h
  | 29, _, _, _, h, hb => h
  | 30, _, _, _, h, hb => h
  | 31, _, _, _, h, hb => h
  | 32, _, _, _, h, hb => h
  | 33, _, _, _, h, hb => h
  | 34, _, _, _, h, hb => h
  | 35, _, _, _, h, hb => h
  | 36, _, _, _, h, hb => h
  | n + 37, _, _, _, _, _ => trivial
set_option maxRecDepth 100000 in
set_option maxHeartbeats 2000000 in
theorem th47ft.region {Q : Exit → Act → World → Prop} {id : Nat} {a : Act} {w : World} (y : Tri) (ad : Addr) (n cA j : Nat) (AW : Option Addr) (nW cW : Nat) (i0 : (0 : Int) ≤ (j : Int)) (i1 : (j : Int) < (n : Int)) (hcel : ∀ W, Below w.heap.size w W → W.cell? (ad.add (j * 3)) = some (.string y.f0) ∧ W.cell? ⟨(ad.add (j * 3)).block, (ad.add (j * 3)).off + 1, none⟩ = some (.string y.f1) ∧ W.cell? ⟨(ad.add (j * 3)).block, (ad.add (j * 3)).off + 2, none⟩ = some (.string y.f2)) (hTb : ∀ W, Below w.heap.size w W → Calls Try.prog 40 #[.slice AW nW cW, .agg #[.string y.f0, .string y.f1, .string y.f2, .bool false]] W fun e W' => e = .returned (.int .i64 1) ∧ Below W.heap.size W W') (hm : Try.prog.follows .mixedOrders = true) (hs : a.tmps.size = 230)  (h14 : a.eval (.tmp 14) = .slice AW nW cW) (h15 : a.eval (.tmp 15) = .slice (some ad) n cA) (h19 : a.eval (.tmp 19) = .int .i64 (j : Nat)) (h20 : a.eval (.tmp 20) = .bool false) (h21 : a.eval (.tmp 21) = .bool true)
    (hdone : ∀ (xs : Nat → Value) (W : World), Below w.heap.size w W → IsV (.bool false) (xs 36) W → Q .normal (putZ a th47ft.ns 0 xs) W) :
    (Code.region id (opsOf Try.f11 47) true).wp Try.prog Q a w := by
  refine region_pred (T := th47ft.T) 37 (fun _ W => Below w.heap.size w W) (th47ft.V y ad n cA j AW nW cW) hm (by kernel_rfl) th47ft.tab (by kernel_rfl) (by kernel_rfl) (below_drew (Below.refl _ _)) (fun _ h => h) ?hsteps ?hd
  case hd => exact fun xs W hI hV => hdone xs W hI (hV 36 (by decide))
  case hsteps =>
    have hsz : ∀ t, t < 230 → t < a.tmps.size := fun t ht => by rw [hs]; exact ht
    refine ⟨?_, ?_, ?_, ?_, ?_, ?_, ?_, ?_, ?_, ?_, ?_, ?_, ?_, ?_, ?_, ?_, ?_, ?_, ?_, ?_, ?_, ?_, ?_, ?_, ?_, ?_, ?_, ?_, ?_, ?_, ?_, ?_, ?_, ?_, ?_, ?_, ?_, trivial⟩
    · refine step_op (Op.move (.tmp 14)) (some 193) [] th47ft.ns (by kernel_rfl) rfl (by kernel_rfl) (fun o ho hd hw l xs W hF hl hn K hK => ?_)
      have e1 := eval_o (xs := xs) (ns := th47ft.ns) h14
      exact value_ (v := .slice AW nW cW) (hw _) hd (w1 := W) (by simp only [execOp, ho, e1]; go_simp) (hK.out _ _ (hF.now hF.1 (rfl)))
    · refine step_op (Op.move (.tmp 15)) (some 194) [] th47ft.ns (by kernel_rfl) rfl (by kernel_rfl) (fun o ho hd hw l xs W hF hl hn K hK => ?_)
      have e1 := eval_o (xs := xs) (ns := th47ft.ns) h15
      exact value_ (v := .slice (some ad) n cA) (hw _) hd (w1 := W) (by simp only [execOp, ho, e1]; go_simp) (hK.out _ _ (hF.now hF.1 (rfl)))
    · refine step_op (Op.move (.tmp 19)) (some 195) [] th47ft.ns (by kernel_rfl) rfl (by kernel_rfl) (fun o ho hd hw l xs W hF hl hn K hK => ?_)
      have e1 := eval_o (xs := xs) (ns := th47ft.ns) h19
      exact value_ (v := .int .i64 (j : Nat)) (hw _) hd (w1 := W) (by simp only [execOp, ho, e1]; go_simp) (hK.out _ _ (hF.now hF.1 (rfl)))
    · refine step_op (Op.indexAddr 26 (.tmp 194) (.tmp 195)) (some 196) [1, 2] th47ft.ns (by kernel_rfl) rfl (by kernel_rfl) (fun o ho hd hw l xs W hF hl hn K hK => ?_)
      have e0 : (putZ a th47ft.ns 0 xs).eval (.tmp 194) = .slice (some ad) n cA := (eval_z 1 (hsz 194 (by decide))).trans (hF.get 1 hn.1)
      have e1 : (putZ a th47ft.ns 0 xs).eval (.tmp 195) = .int .i64 (j : Nat) := (eval_z 2 (hsz 195 (by decide))).trans (hF.get 2 hn.2.1)
      exact value_ (v := .pointer (some (ad.add (j * 3)))) (hw _) hd (w1 := W) (by simp only [Act.eval, Array.getD_eq_getD_getElem?] at e0 e1; simp only [execOp, ho]; go_simp) (hK.out _ _ (hF.now hF.1 rfl))
    · refine step_op (Op.load 30 (.tmp 196)) (some 197) [3] th47ft.ns (by kernel_rfl) rfl (by kernel_rfl) (fun o ho hd hw l xs W hF hl hn K hK => ?_)
      have e0 : (putZ a th47ft.ns 0 xs).eval (.tmp 196) = .pointer (some (ad.add (j * 3))) := (eval_z 3 (hsz 196 (by decide))).trans (hF.get 3 hn.1)
      obtain ⟨q0, q1, q2⟩ := hcel W hF.1
      exact value_ (v := .agg #[.string y.f0, .string y.f1, .string y.f2]) (hw _) hd (w1 := W) (by simp only [Act.eval, Array.getD_eq_getD_getElem?] at e0; simp only [execOp, ho]; go_simp) (hK.out _ _ (hF.now hF.1 rfl))
    · refine step_op (Op.move (.tmp 20)) (some 198) [] th47ft.ns (by kernel_rfl) rfl (by kernel_rfl) (fun o ho hd hw l xs W hF hl hn K hK => ?_)
      have e1 := eval_o (xs := xs) (ns := th47ft.ns) h20
      exact value_ (v := .bool false) (hw _) hd (w1 := W) (by simp only [execOp, ho, e1]; go_simp) (hK.out _ _ (hF.now hF.1 (rfl)))
    · refine step_op (Op.build 53 #[(0, .tmp 197), (1, .tmp 198)]) (some 199) [4, 5] th47ft.ns (by kernel_rfl) rfl (by kernel_rfl) (fun o ho hd hw l xs W hF hl hn K hK => ?_)
      have e0 : (putZ a th47ft.ns 0 xs).eval (.tmp 197) = .agg #[.string y.f0, .string y.f1, .string y.f2] := (eval_z 4 (hsz 197 (by decide))).trans (hF.get 4 hn.1)
      have e1 : (putZ a th47ft.ns 0 xs).eval (.tmp 198) = .bool false := (eval_z 5 (hsz 198 (by decide))).trans (hF.get 5 hn.2.1)
      exact value_ (v := .agg #[.string y.f0, .string y.f1, .string y.f2, .bool false]) (hw _) hd (w1 := W) (by simp only [Act.eval, Array.getD_eq_getD_getElem?] at e0 e1; simp only [execOp, ho]; go_simp) (hK.out _ _ (hF.now hF.1 rfl))
    · refine step_op (Op.call { callee := .value (.func 40), args := #[.tmp 193, .tmp 199], argTypes := #[47, 53] }) (some 200) [0, 6] th47ft.ns (by kernel_rfl) rfl (by kernel_rfl) (fun o ho hd hw l xs W hF hl hn K hK => ?_)
      have e0 : (putZ a th47ft.ns 0 xs).eval (.tmp 193) = .slice AW nW cW := (eval_z 0 (hsz 193 (by decide))).trans (hF.get 0 hn.1)
      have e1 : (putZ a th47ft.ns 0 xs).eval (.tmp 199) = .agg #[.string y.f0, .string y.f1, .string y.f2, .bool false] := (eval_z 6 (hsz 199 (by decide))).trans (hF.get 6 hn.2.1)
      refine goes_ Try.func40 (by kernel_rfl) rfl #[.slice AW nW cW, .agg #[.string y.f0, .string y.f1, .string y.f2, .bool false]] (hw _) hd ho (by simp only [List.map_toArray, List.map_cons, List.map_nil, e0, e1]) ?_
      refine (hTb W hF.1).mono ?_
      rintro e W' ⟨rfl, hb⟩
      exact ⟨_, rfl, hK.out _ _ (hF.up (hF.1.trans (hb.mono hF.1.size)) (fun j v _ _ h => th47ft.mono j h hb) (rfl))⟩
    · refine step_op (Op.binOp .neq 3 (.tmp 200) (.const (.int .i64 1)) 3) (some 201) [7] th47ft.ns (by kernel_rfl) rfl (by kernel_rfl) (fun o ho hd hw l xs W hF hl hn K hK => ?_)
      have e0 : (putZ a th47ft.ns 0 xs).eval (.tmp 200) = .int .i64 1 := (eval_z 7 (hsz 200 (by decide))).trans (hF.get 7 hn.1)
      exact value_ (v := .bool false) (hw _) hd (w1 := W) (by simp only [Act.eval, Array.getD_eq_getD_getElem?] at e0; simp only [execOp, ho]; go_simp) (hK.out _ _ (hF.now hF.1 rfl))
    · refine step_op (Op.move (.tmp 201)) (some 202) [8, 7] th47ft.ns (by kernel_rfl) rfl (by kernel_rfl) (fun o ho hd hw l xs W hF hl hn K hK => ?_)
      have e1 : (putZ a th47ft.ns 0 xs).eval (.tmp 201) = xs 8 := eval_z 8 (hsz 201 (by decide))
      exact value_ (v := xs 8) (hw _) hd (w1 := W) (by simp only [execOp, ho, e1]; go_simp) (hK.out _ _ (hF.now hF.1 (hF.get 8 hn.1)))
    · exact step_ox (Op.move (.tmp 20)) (some 203) 9 true 202 [9] th47ft.ns (by kernel_rfl) (by kernel_rfl) rfl (by kernel_rfl) (fun l xs W hF hl hn => ⟨(eval_z 9 (hsz 202 (by decide))).trans (hF.get 9 hn.1), by rw [putZ_size]; exact hsz 202 (by decide), hF.now hF.1 rfl⟩)
    · exact step_ox (Op.move (.tmp 21)) (some 204) 9 true 202 [9] th47ft.ns (by kernel_rfl) (by kernel_rfl) rfl (by kernel_rfl) (fun l xs W hF hl hn => ⟨(eval_z 9 (hsz 202 (by decide))).trans (hF.get 9 hn.1), by rw [putZ_size]; exact hsz 202 (by decide), hF.now hF.1 rfl⟩)
    · exact step_ox (Op.binOp .neq 4 (.tmp 203) (.tmp 204) 4) (some 205) 9 true 202 [10, 11, 9] th47ft.ns (by kernel_rfl) (by kernel_rfl) rfl (by kernel_rfl) (fun l xs W hF hl hn => ⟨(eval_z 9 (hsz 202 (by decide))).trans (hF.get 9 hn.2.2.1), by rw [putZ_size]; exact hsz 202 (by decide), hF.now hF.1 rfl⟩)
    · refine step_op (Op.pick (.tmp 202) (.tmp 205) (.const (.bool false))) (some 206) [9, 12] th47ft.ns (by kernel_rfl) rfl (by kernel_rfl) (fun o ho hd hw l xs W hF hl hn K hK => ?_)
      have e0 : (putZ a th47ft.ns 0 xs).eval (.tmp 202) = .bool false := (eval_z 9 (hsz 202 (by decide))).trans (hF.get 9 hn.1)
      have e1 : (putZ a th47ft.ns 0 xs).eval (.tmp 205) = undef := (eval_z 12 (hsz 205 (by decide))).trans (hF.get 12 hn.2.1)
      exact value_ (v := .bool false) (hw _) hd (w1 := W) (by simp only [Act.eval, Array.getD_eq_getD_getElem?] at e0 e1; simp only [execOp, ho]; go_simp) (hK.out _ _ (hF.now hF.1 rfl))
    · refine step_op (Op.move (.tmp 206)) (some 207) [13, 9] th47ft.ns (by kernel_rfl) rfl (by kernel_rfl) (fun o ho hd hw l xs W hF hl hn K hK => ?_)
      have e1 : (putZ a th47ft.ns 0 xs).eval (.tmp 206) = xs 13 := eval_z 13 (hsz 206 (by decide))
      exact value_ (v := xs 13) (hw _) hd (w1 := W) (by simp only [execOp, ho, e1]; go_simp) (hK.out _ _ (hF.now hF.1 (hF.get 13 hn.1)))
    · refine step_og (Op.move (.tmp 20)) (some 208) 14 false 207 [14] th47ft.ns (by kernel_rfl) (by kernel_rfl) rfl (by kernel_rfl) (fun o ho hd hw0 l xs W hF hl hn K hK => ?_)
      have eg : (putZ a th47ft.ns 0 xs).eval (.tmp 207) = .bool false := (eval_z 14 (hsz 207 (by decide))).trans (hF.get 14 hn.1)
      have hw := hw0 (putZ a th47ft.ns 0 xs) (by rw [putZ_size]; exact hsz 207 (by decide)) eg
      have e1 := eval_o (xs := xs) (ns := th47ft.ns) h20
      exact value_ (v := .bool false) hw hd (w1 := W) (by simp only [execOp, ho, e1]; go_simp) (hK.out _ _ (hF.now hF.1 (rfl)))
    · refine step_og (Op.move (.tmp 21)) (some 209) 14 false 207 [14] th47ft.ns (by kernel_rfl) (by kernel_rfl) rfl (by kernel_rfl) (fun o ho hd hw0 l xs W hF hl hn K hK => ?_)
      have eg : (putZ a th47ft.ns 0 xs).eval (.tmp 207) = .bool false := (eval_z 14 (hsz 207 (by decide))).trans (hF.get 14 hn.1)
      have hw := hw0 (putZ a th47ft.ns 0 xs) (by rw [putZ_size]; exact hsz 207 (by decide)) eg
      have e1 := eval_o (xs := xs) (ns := th47ft.ns) h21
      exact value_ (v := .bool true) hw hd (w1 := W) (by simp only [execOp, ho, e1]; go_simp) (hK.out _ _ (hF.now hF.1 (rfl)))
    · refine step_og (Op.binOp .eql 4 (.tmp 208) (.tmp 209) 4) (some 210) 14 false 207 [15, 16, 14] th47ft.ns (by kernel_rfl) (by kernel_rfl) rfl (by kernel_rfl) (fun o ho hd hw0 l xs W hF hl hn K hK => ?_)
      have eg : (putZ a th47ft.ns 0 xs).eval (.tmp 207) = .bool false := (eval_z 14 (hsz 207 (by decide))).trans (hF.get 14 hn.2.2.1)
      have hw := hw0 (putZ a th47ft.ns 0 xs) (by rw [putZ_size]; exact hsz 207 (by decide)) eg
      have e0 : (putZ a th47ft.ns 0 xs).eval (.tmp 208) = .bool false := (eval_z 15 (hsz 208 (by decide))).trans (hF.get 15 hn.1)
      have e1 : (putZ a th47ft.ns 0 xs).eval (.tmp 209) = .bool true := (eval_z 16 (hsz 209 (by decide))).trans (hF.get 16 hn.2.1)
      exact value_ (v := .bool false) hw hd (w1 := W) (by simp only [Act.eval, Array.getD_eq_getD_getElem?] at e0 e1; simp only [execOp, ho]; go_simp) (hK.out _ _ (hF.now hF.1 rfl))
    · refine step_og (Op.move (.tmp 210)) (some 211) 14 false 207 [17, 14, 14] th47ft.ns (by kernel_rfl) (by kernel_rfl) rfl (by kernel_rfl) (fun o ho hd hw0 l xs W hF hl hn K hK => ?_)
      have eg : (putZ a th47ft.ns 0 xs).eval (.tmp 207) = .bool false := (eval_z 14 (hsz 207 (by decide))).trans (hF.get 14 hn.2.1)
      have hw := hw0 (putZ a th47ft.ns 0 xs) (by rw [putZ_size]; exact hsz 207 (by decide)) eg
      have e1 : (putZ a th47ft.ns 0 xs).eval (.tmp 210) = xs 17 := eval_z 17 (hsz 210 (by decide))
      exact value_ (v := xs 17) hw hd (w1 := W) (by simp only [execOp, ho, e1]; go_simp) (hK.out _ _ (hF.now hF.1 (hF.get 17 hn.1)))
    · exact step_ox (Op.move (.tmp 14)) (some 212) 18 true 211 [18] th47ft.ns (by kernel_rfl) (by kernel_rfl) rfl (by kernel_rfl) (fun l xs W hF hl hn => ⟨(eval_z 18 (hsz 211 (by decide))).trans (hF.get 18 hn.1), by rw [putZ_size]; exact hsz 211 (by decide), hF.now hF.1 rfl⟩)
    · exact step_ox (Op.move (.tmp 15)) (some 213) 18 true 211 [18] th47ft.ns (by kernel_rfl) (by kernel_rfl) rfl (by kernel_rfl) (fun l xs W hF hl hn => ⟨(eval_z 18 (hsz 211 (by decide))).trans (hF.get 18 hn.1), by rw [putZ_size]; exact hsz 211 (by decide), hF.now hF.1 rfl⟩)
    · exact step_ox (Op.move (.tmp 19)) (some 214) 18 true 211 [18] th47ft.ns (by kernel_rfl) (by kernel_rfl) rfl (by kernel_rfl) (fun l xs W hF hl hn => ⟨(eval_z 18 (hsz 211 (by decide))).trans (hF.get 18 hn.1), by rw [putZ_size]; exact hsz 211 (by decide), hF.now hF.1 rfl⟩)
    · exact step_ox (Op.indexAddr 26 (.tmp 213) (.tmp 214)) (some 215) 18 true 211 [20, 21, 18] th47ft.ns (by kernel_rfl) (by kernel_rfl) rfl (by kernel_rfl) (fun l xs W hF hl hn => ⟨(eval_z 18 (hsz 211 (by decide))).trans (hF.get 18 hn.2.2.1), by rw [putZ_size]; exact hsz 211 (by decide), hF.now hF.1 rfl⟩)
    · exact step_ox (Op.load 30 (.tmp 215)) (some 216) 18 true 211 [22, 18] th47ft.ns (by kernel_rfl) (by kernel_rfl) rfl (by kernel_rfl) (fun l xs W hF hl hn => ⟨(eval_z 18 (hsz 211 (by decide))).trans (hF.get 18 hn.2.1), by rw [putZ_size]; exact hsz 211 (by decide), hF.now hF.1 rfl⟩)
    · exact step_ox (Op.build 53 #[(0, .tmp 216)]) (some 217) 18 true 211 [23, 18] th47ft.ns (by kernel_rfl) (by kernel_rfl) rfl (by kernel_rfl) (fun l xs W hF hl hn => ⟨(eval_z 18 (hsz 211 (by decide))).trans (hF.get 18 hn.2.1), by rw [putZ_size]; exact hsz 211 (by decide), hF.now hF.1 rfl⟩)
    · exact step_ox (Op.call { callee := .value (.func 40), args := #[.tmp 212, .tmp 217], argTypes := #[47, 53] }) (some 218) 18 true 211 [19, 24, 18, 18] th47ft.ns (by kernel_rfl) (by kernel_rfl) rfl (by kernel_rfl) (fun l xs W hF hl hn => ⟨(eval_z 18 (hsz 211 (by decide))).trans (hF.get 18 hn.2.2.1), by rw [putZ_size]; exact hsz 211 (by decide), hF.now hF.1 rfl⟩)
    · exact step_ox (Op.move (.tmp 14)) (some 219) 18 true 211 [18] th47ft.ns (by kernel_rfl) (by kernel_rfl) rfl (by kernel_rfl) (fun l xs W hF hl hn => ⟨(eval_z 18 (hsz 211 (by decide))).trans (hF.get 18 hn.1), by rw [putZ_size]; exact hsz 211 (by decide), hF.now hF.1 rfl⟩)
    · exact step_ox (Op.move (.tmp 15)) (some 220) 18 true 211 [18] th47ft.ns (by kernel_rfl) (by kernel_rfl) rfl (by kernel_rfl) (fun l xs W hF hl hn => ⟨(eval_z 18 (hsz 211 (by decide))).trans (hF.get 18 hn.1), by rw [putZ_size]; exact hsz 211 (by decide), hF.now hF.1 rfl⟩)
    · exact step_ox (Op.move (.tmp 19)) (some 221) 18 true 211 [18] th47ft.ns (by kernel_rfl) (by kernel_rfl) rfl (by kernel_rfl) (fun l xs W hF hl hn => ⟨(eval_z 18 (hsz 211 (by decide))).trans (hF.get 18 hn.1), by rw [putZ_size]; exact hsz 211 (by decide), hF.now hF.1 rfl⟩)
    · exact step_ox (Op.indexAddr 26 (.tmp 220) (.tmp 221)) (some 222) 18 true 211 [27, 28, 18] th47ft.ns (by kernel_rfl) (by kernel_rfl) rfl (by kernel_rfl) (fun l xs W hF hl hn => ⟨(eval_z 18 (hsz 211 (by decide))).trans (hF.get 18 hn.2.2.1), by rw [putZ_size]; exact hsz 211 (by decide), hF.now hF.1 rfl⟩)
    · exact step_ox (Op.load 30 (.tmp 222)) (some 223) 18 true 211 [29, 18] th47ft.ns (by kernel_rfl) (by kernel_rfl) rfl (by kernel_rfl) (fun l xs W hF hl hn => ⟨(eval_z 18 (hsz 211 (by decide))).trans (hF.get 18 hn.2.1), by rw [putZ_size]; exact hsz 211 (by decide), hF.now hF.1 rfl⟩)
    · exact step_ox (Op.build 53 #[(0, .tmp 223), (1, .const (.bool true))]) (some 224) 18 true 211 [30, 18] th47ft.ns (by kernel_rfl) (by kernel_rfl) rfl (by kernel_rfl) (fun l xs W hF hl hn => ⟨(eval_z 18 (hsz 211 (by decide))).trans (hF.get 18 hn.2.1), by rw [putZ_size]; exact hsz 211 (by decide), hF.now hF.1 rfl⟩)
    · exact step_ox (Op.call { callee := .value (.func 40), args := #[.tmp 219, .tmp 224], argTypes := #[47, 53] }) (some 225) 18 true 211 [26, 31, 25, 18] th47ft.ns (by kernel_rfl) (by kernel_rfl) rfl (by kernel_rfl) (fun l xs W hF hl hn => ⟨(eval_z 18 (hsz 211 (by decide))).trans (hF.get 18 hn.2.2.2.1), by rw [putZ_size]; exact hsz 211 (by decide), hF.now hF.1 rfl⟩)
    · exact step_ox (Op.binOp .add 3 (.tmp 218) (.tmp 225) 3) (some 226) 18 true 211 [25, 32, 18] th47ft.ns (by kernel_rfl) (by kernel_rfl) rfl (by kernel_rfl) (fun l xs W hF hl hn => ⟨(eval_z 18 (hsz 211 (by decide))).trans (hF.get 18 hn.2.2.1), by rw [putZ_size]; exact hsz 211 (by decide), hF.now hF.1 rfl⟩)
    · exact step_ox (Op.binOp .neq 3 (.tmp 226) (.const (.int .i64 0)) 3) (some 227) 18 true 211 [33, 18] th47ft.ns (by kernel_rfl) (by kernel_rfl) rfl (by kernel_rfl) (fun l xs W hF hl hn => ⟨(eval_z 18 (hsz 211 (by decide))).trans (hF.get 18 hn.2.1), by rw [putZ_size]; exact hsz 211 (by decide), hF.now hF.1 rfl⟩)
    · refine step_og (Op.pick (.tmp 211) (.tmp 227) (.const (.bool false))) (some 228) 14 false 207 [18, 34, 14] th47ft.ns (by kernel_rfl) (by kernel_rfl) rfl (by kernel_rfl) (fun o ho hd hw0 l xs W hF hl hn K hK => ?_)
      have eg : (putZ a th47ft.ns 0 xs).eval (.tmp 207) = .bool false := (eval_z 14 (hsz 207 (by decide))).trans (hF.get 14 hn.2.2.1)
      have hw := hw0 (putZ a th47ft.ns 0 xs) (by rw [putZ_size]; exact hsz 207 (by decide)) eg
      have e0 : (putZ a th47ft.ns 0 xs).eval (.tmp 211) = .bool false := (eval_z 18 (hsz 211 (by decide))).trans (hF.get 18 hn.1)
      have e1 : (putZ a th47ft.ns 0 xs).eval (.tmp 227) = undef := (eval_z 34 (hsz 227 (by decide))).trans (hF.get 34 hn.2.1)
      exact value_ (v := .bool false) hw hd (w1 := W) (by simp only [Act.eval, Array.getD_eq_getD_getElem?] at e0 e1; simp only [execOp, ho]; go_simp) (hK.out _ _ (hF.now hF.1 rfl))
    · refine step_op (Op.pick (.tmp 207) (.const (.bool true)) (.tmp 228)) (some 229) [14, 35] th47ft.ns (by kernel_rfl) rfl (by kernel_rfl) (fun o ho hd hw l xs W hF hl hn K hK => ?_)
      have e0 : (putZ a th47ft.ns 0 xs).eval (.tmp 207) = .bool false := (eval_z 14 (hsz 207 (by decide))).trans (hF.get 14 hn.1)
      have e1 : (putZ a th47ft.ns 0 xs).eval (.tmp 228) = .bool false := (eval_z 35 (hsz 228 (by decide))).trans (hF.get 35 hn.2.1)
      exact value_ (v := .bool false) (hw _) hd (w1 := W) (by simp only [Act.eval, Array.getD_eq_getD_getElem?] at e0 e1; simp only [execOp, ho]; go_simp) (hK.out _ _ (hF.now hF.1 rfl))
abbrev th47tt.ns : List (Option Tmp) := [some 193, some 194, some 195, some 196, some 197, some 198, some 199, some 200, some 201, some 202, some 203, some 204, some 205, some 206, some 207, some 208, some 209, some 210, some 211, some 212, some 213, some 214, some 215, some 216, some 217, some 218, some 219, some 220, some 221, some 222, some 223, some 224, some 225, some 226, some 227, some 228, some 229]
def th47tt.T : Bool × List (List Nat × List Nat) := (true, [([], []), ([], []), ([], []), ([1, 2], [1, 2]), ([3], [3]), ([], []), ([4, 5], [4, 5]), ([0, 6], [0, 6]), ([7], [7]), ([8, 7], [8]), ([9], [9]), ([9], [9]), ([10, 11, 9], [9, 10, 11]), ([9, 12], [9, 12]), ([13, 9], [13]), ([14], [14]), ([14], [14]), ([15, 16, 14], [14, 15, 16]), ([17, 14, 14], [14, 17]), ([18], [18]), ([18], [18]), ([18], [18]), ([20, 21, 18], [18, 20, 21]), ([22, 18], [18, 22]), ([23, 18], [18, 23]), ([19, 24, 18, 18], [18, 19, 24]), ([18], [18]), ([18], [18]), ([18], [18]), ([27, 28, 18], [18, 27, 28]), ([29, 18], [18, 29]), ([30, 18], [18, 30]), ([26, 31, 25, 18], [18, 26, 31]), ([25, 32, 18], [18, 25, 32]), ([33, 18], [18, 33]), ([18, 34, 14], [14, 18, 34]), ([14, 35], [14, 35])])
theorem th47tt.tab : rtab .any (opsOf Try.f11 47) = th47tt.T := by kernel_rfl
def th47tt.V (y : Tri) (ad : Addr) (n cA j : Nat) (AW : Option Addr) (nW cW : Nat) : Nat → Value → World → Prop
  | 0 => IsV (.slice AW nW cW)
  | 1 => IsV (.slice (some ad) n cA)
  | 2 => IsV (.int .i64 (j : Nat))
  | 3 => IsV (.pointer (some (ad.add (j * 3))))
  | 4 => IsV (.agg #[.string y.f0, .string y.f1, .string y.f2])
  | 5 => IsV (.bool true)
  | 6 => IsV (.agg #[.string y.f0, .string y.f1, .string y.f2, .bool true])
  | 7 => IsV (.int .i64 0)
  | 8 => IsV (.bool true)
  | 9 => IsV (.bool true)
  | 10 => IsV (.bool true)
  | 11 => IsV (.bool true)
  | 12 => IsV (.bool false)
  | 13 => IsV (.bool false)
  | 14 => IsV (.bool false)
  | 15 => IsV (.bool true)
  | 16 => IsV (.bool true)
  | 17 => IsV (.bool true)
  | 18 => IsV (.bool true)
  | 19 => IsV (.slice AW nW cW)
  | 20 => IsV (.slice (some ad) n cA)
  | 21 => IsV (.int .i64 (j : Nat))
  | 22 => IsV (.pointer (some (ad.add (j * 3))))
  | 23 => IsV (.agg #[.string y.f0, .string y.f1, .string y.f2])
  | 24 => IsV (.agg #[.string y.f0, .string y.f1, .string y.f2, .bool false])
  | 25 => IsV (.int .i64 0)
  | 26 => IsV (.slice AW nW cW)
  | 27 => IsV (.slice (some ad) n cA)
  | 28 => IsV (.int .i64 (j : Nat))
  | 29 => IsV (.pointer (some (ad.add (j * 3))))
  | 30 => IsV (.agg #[.string y.f0, .string y.f1, .string y.f2])
  | 31 => IsV (.agg #[.string y.f0, .string y.f1, .string y.f2, .bool true])
  | 32 => IsV (.int .i64 0)
  | 33 => IsV (.int .i64 0)
  | 34 => IsV (.bool false)
  | 35 => IsV (.bool false)
  | 36 => IsV (.bool false)
  | _ => fun _ _ => True
theorem th47tt.mono {y : Tri} {ad : Addr} {n cA j : Nat} {AW : Option Addr} {nW cW : Nat} : ∀ (j_ : Nat) {v : Value} {W W' : World}, th47tt.V y ad n cA j AW nW cW j_ v W → Below W.heap.size W W' → th47tt.V y ad n cA j AW nW cW j_ v W'
  | 0, _, _, _, h, hb => h
  | 1, _, _, _, h, hb => h
  | 2, _, _, _, h, hb => h
  | 3, _, _, _, h, hb => h
  | 4, _, _, _, h, hb => h
  | 5, _, _, _, h, hb => h
  | 6, _, _, _, h, hb => h
  | 7, _, _, _, h, hb => h
  | 8, _, _, _, h, hb => h
  | 9, _, _, _, h, hb => h
  | 10, _, _, _, h, hb => h
  | 11, _, _, _, h, hb => h
  | 12, _, _, _, h, hb => h
  | 13, _, _, _, h, hb => h
  | 14, _, _, _, h, hb => h
  | 15, _, _, _, h, hb => h
  | 16, _, _, _, h, hb => h
  | 17, _, _, _, h, hb => h
  | 18, _, _, _, h, hb => h
  | 19, _, _, _, h, hb => h
  | 20, _, _, _, h, hb => h
  | 21, _, _, _, h, hb => h
  | 22, _, _, _, h, hb => h
  | 23, _, _, _, h, hb => h
  | 24, _, _, _, h, hb => h
  | 25, _, _, _, h, hb => h
  | 26, _, _, _, h, hb => h
  | 27, _, _, _, h, hb => h
  | 28, _, _, _, h, hb => h
  | 29, _, _, _, h, hb => h
  | 30, _, _, _, h, hb => h
  | 31, _, _, _, h, hb => h
  | 32, _, _, _, h, hb => h
  | 33, _, _, _, h, hb => h
  | 34, _, _, _, h, hb => h
  | 35, _, _, _, h, hb => h
  | 36, _, _, _, h, hb => h
  | n + 37, _, _, _, _, _ => trivial
set_option maxRecDepth 100000 in
set_option maxHeartbeats 2000000 in
theorem th47tt.region {Q : Exit → Act → World → Prop} {id : Nat} {a : Act} {w : World} (y : Tri) (ad : Addr) (n cA j : Nat) (AW : Option Addr) (nW cW : Nat) (i0 : (0 : Int) ≤ (j : Int)) (i1 : (j : Int) < (n : Int)) (hcel : ∀ W, Below w.heap.size w W → W.cell? (ad.add (j * 3)) = some (.string y.f0) ∧ W.cell? ⟨(ad.add (j * 3)).block, (ad.add (j * 3)).off + 1, none⟩ = some (.string y.f1) ∧ W.cell? ⟨(ad.add (j * 3)).block, (ad.add (j * 3)).off + 2, none⟩ = some (.string y.f2)) (hTb : ∀ W, Below w.heap.size w W → Calls Try.prog 40 #[.slice AW nW cW, .agg #[.string y.f0, .string y.f1, .string y.f2, .bool true]] W fun e W' => e = .returned (.int .i64 0) ∧ Below W.heap.size W W') (hTf : ∀ W, Below w.heap.size w W → Calls Try.prog 40 #[.slice AW nW cW, .agg #[.string y.f0, .string y.f1, .string y.f2, .bool false]] W fun e W' => e = .returned (.int .i64 0) ∧ Below W.heap.size W W') (hTt : ∀ W, Below w.heap.size w W → Calls Try.prog 40 #[.slice AW nW cW, .agg #[.string y.f0, .string y.f1, .string y.f2, .bool true]] W fun e W' => e = .returned (.int .i64 0) ∧ Below W.heap.size W W') (hm : Try.prog.follows .mixedOrders = true) (hs : a.tmps.size = 230)  (h14 : a.eval (.tmp 14) = .slice AW nW cW) (h15 : a.eval (.tmp 15) = .slice (some ad) n cA) (h19 : a.eval (.tmp 19) = .int .i64 (j : Nat)) (h20 : a.eval (.tmp 20) = .bool true) (h21 : a.eval (.tmp 21) = .bool true)
    (hdone : ∀ (xs : Nat → Value) (W : World), Below w.heap.size w W → IsV (.bool false) (xs 36) W → Q .normal (putZ a th47tt.ns 0 xs) W) :
    (Code.region id (opsOf Try.f11 47) true).wp Try.prog Q a w := by
  refine region_pred (T := th47tt.T) 37 (fun _ W => Below w.heap.size w W) (th47tt.V y ad n cA j AW nW cW) hm (by kernel_rfl) th47tt.tab (by kernel_rfl) (by kernel_rfl) (below_drew (Below.refl _ _)) (fun _ h => h) ?hsteps ?hd
  case hd => exact fun xs W hI hV => hdone xs W hI (hV 36 (by decide))
  case hsteps =>
    have hsz : ∀ t, t < 230 → t < a.tmps.size := fun t ht => by rw [hs]; exact ht
    refine ⟨?_, ?_, ?_, ?_, ?_, ?_, ?_, ?_, ?_, ?_, ?_, ?_, ?_, ?_, ?_, ?_, ?_, ?_, ?_, ?_, ?_, ?_, ?_, ?_, ?_, ?_, ?_, ?_, ?_, ?_, ?_, ?_, ?_, ?_, ?_, ?_, ?_, trivial⟩
    · refine step_op (Op.move (.tmp 14)) (some 193) [] th47tt.ns (by kernel_rfl) rfl (by kernel_rfl) (fun o ho hd hw l xs W hF hl hn K hK => ?_)
      have e1 := eval_o (xs := xs) (ns := th47tt.ns) h14
      exact value_ (v := .slice AW nW cW) (hw _) hd (w1 := W) (by simp only [execOp, ho, e1]; go_simp) (hK.out _ _ (hF.now hF.1 (rfl)))
    · refine step_op (Op.move (.tmp 15)) (some 194) [] th47tt.ns (by kernel_rfl) rfl (by kernel_rfl) (fun o ho hd hw l xs W hF hl hn K hK => ?_)
      have e1 := eval_o (xs := xs) (ns := th47tt.ns) h15
      exact value_ (v := .slice (some ad) n cA) (hw _) hd (w1 := W) (by simp only [execOp, ho, e1]; go_simp) (hK.out _ _ (hF.now hF.1 (rfl)))
    · refine step_op (Op.move (.tmp 19)) (some 195) [] th47tt.ns (by kernel_rfl) rfl (by kernel_rfl) (fun o ho hd hw l xs W hF hl hn K hK => ?_)
      have e1 := eval_o (xs := xs) (ns := th47tt.ns) h19
      exact value_ (v := .int .i64 (j : Nat)) (hw _) hd (w1 := W) (by simp only [execOp, ho, e1]; go_simp) (hK.out _ _ (hF.now hF.1 (rfl)))
    · refine step_op (Op.indexAddr 26 (.tmp 194) (.tmp 195)) (some 196) [1, 2] th47tt.ns (by kernel_rfl) rfl (by kernel_rfl) (fun o ho hd hw l xs W hF hl hn K hK => ?_)
      have e0 : (putZ a th47tt.ns 0 xs).eval (.tmp 194) = .slice (some ad) n cA := (eval_z 1 (hsz 194 (by decide))).trans (hF.get 1 hn.1)
      have e1 : (putZ a th47tt.ns 0 xs).eval (.tmp 195) = .int .i64 (j : Nat) := (eval_z 2 (hsz 195 (by decide))).trans (hF.get 2 hn.2.1)
      exact value_ (v := .pointer (some (ad.add (j * 3)))) (hw _) hd (w1 := W) (by simp only [Act.eval, Array.getD_eq_getD_getElem?] at e0 e1; simp only [execOp, ho]; go_simp) (hK.out _ _ (hF.now hF.1 rfl))
    · refine step_op (Op.load 30 (.tmp 196)) (some 197) [3] th47tt.ns (by kernel_rfl) rfl (by kernel_rfl) (fun o ho hd hw l xs W hF hl hn K hK => ?_)
      have e0 : (putZ a th47tt.ns 0 xs).eval (.tmp 196) = .pointer (some (ad.add (j * 3))) := (eval_z 3 (hsz 196 (by decide))).trans (hF.get 3 hn.1)
      obtain ⟨q0, q1, q2⟩ := hcel W hF.1
      exact value_ (v := .agg #[.string y.f0, .string y.f1, .string y.f2]) (hw _) hd (w1 := W) (by simp only [Act.eval, Array.getD_eq_getD_getElem?] at e0; simp only [execOp, ho]; go_simp) (hK.out _ _ (hF.now hF.1 rfl))
    · refine step_op (Op.move (.tmp 20)) (some 198) [] th47tt.ns (by kernel_rfl) rfl (by kernel_rfl) (fun o ho hd hw l xs W hF hl hn K hK => ?_)
      have e1 := eval_o (xs := xs) (ns := th47tt.ns) h20
      exact value_ (v := .bool true) (hw _) hd (w1 := W) (by simp only [execOp, ho, e1]; go_simp) (hK.out _ _ (hF.now hF.1 (rfl)))
    · refine step_op (Op.build 53 #[(0, .tmp 197), (1, .tmp 198)]) (some 199) [4, 5] th47tt.ns (by kernel_rfl) rfl (by kernel_rfl) (fun o ho hd hw l xs W hF hl hn K hK => ?_)
      have e0 : (putZ a th47tt.ns 0 xs).eval (.tmp 197) = .agg #[.string y.f0, .string y.f1, .string y.f2] := (eval_z 4 (hsz 197 (by decide))).trans (hF.get 4 hn.1)
      have e1 : (putZ a th47tt.ns 0 xs).eval (.tmp 198) = .bool true := (eval_z 5 (hsz 198 (by decide))).trans (hF.get 5 hn.2.1)
      exact value_ (v := .agg #[.string y.f0, .string y.f1, .string y.f2, .bool true]) (hw _) hd (w1 := W) (by simp only [Act.eval, Array.getD_eq_getD_getElem?] at e0 e1; simp only [execOp, ho]; go_simp) (hK.out _ _ (hF.now hF.1 rfl))
    · refine step_op (Op.call { callee := .value (.func 40), args := #[.tmp 193, .tmp 199], argTypes := #[47, 53] }) (some 200) [0, 6] th47tt.ns (by kernel_rfl) rfl (by kernel_rfl) (fun o ho hd hw l xs W hF hl hn K hK => ?_)
      have e0 : (putZ a th47tt.ns 0 xs).eval (.tmp 193) = .slice AW nW cW := (eval_z 0 (hsz 193 (by decide))).trans (hF.get 0 hn.1)
      have e1 : (putZ a th47tt.ns 0 xs).eval (.tmp 199) = .agg #[.string y.f0, .string y.f1, .string y.f2, .bool true] := (eval_z 6 (hsz 199 (by decide))).trans (hF.get 6 hn.2.1)
      refine goes_ Try.func40 (by kernel_rfl) rfl #[.slice AW nW cW, .agg #[.string y.f0, .string y.f1, .string y.f2, .bool true]] (hw _) hd ho (by simp only [List.map_toArray, List.map_cons, List.map_nil, e0, e1]) ?_
      refine (hTb W hF.1).mono ?_
      rintro e W' ⟨rfl, hb⟩
      exact ⟨_, rfl, hK.out _ _ (hF.up (hF.1.trans (hb.mono hF.1.size)) (fun j v _ _ h => th47tt.mono j h hb) (rfl))⟩
    · refine step_op (Op.binOp .neq 3 (.tmp 200) (.const (.int .i64 1)) 3) (some 201) [7] th47tt.ns (by kernel_rfl) rfl (by kernel_rfl) (fun o ho hd hw l xs W hF hl hn K hK => ?_)
      have e0 : (putZ a th47tt.ns 0 xs).eval (.tmp 200) = .int .i64 0 := (eval_z 7 (hsz 200 (by decide))).trans (hF.get 7 hn.1)
      exact value_ (v := .bool true) (hw _) hd (w1 := W) (by simp only [Act.eval, Array.getD_eq_getD_getElem?] at e0; simp only [execOp, ho]; go_simp) (hK.out _ _ (hF.now hF.1 rfl))
    · refine step_op (Op.move (.tmp 201)) (some 202) [8, 7] th47tt.ns (by kernel_rfl) rfl (by kernel_rfl) (fun o ho hd hw l xs W hF hl hn K hK => ?_)
      have e1 : (putZ a th47tt.ns 0 xs).eval (.tmp 201) = xs 8 := eval_z 8 (hsz 201 (by decide))
      exact value_ (v := xs 8) (hw _) hd (w1 := W) (by simp only [execOp, ho, e1]; go_simp) (hK.out _ _ (hF.now hF.1 (hF.get 8 hn.1)))
    · refine step_og (Op.move (.tmp 20)) (some 203) 9 true 202 [9] th47tt.ns (by kernel_rfl) (by kernel_rfl) rfl (by kernel_rfl) (fun o ho hd hw0 l xs W hF hl hn K hK => ?_)
      have eg : (putZ a th47tt.ns 0 xs).eval (.tmp 202) = .bool true := (eval_z 9 (hsz 202 (by decide))).trans (hF.get 9 hn.1)
      have hw := hw0 (putZ a th47tt.ns 0 xs) (by rw [putZ_size]; exact hsz 202 (by decide)) eg
      have e1 := eval_o (xs := xs) (ns := th47tt.ns) h20
      exact value_ (v := .bool true) hw hd (w1 := W) (by simp only [execOp, ho, e1]; go_simp) (hK.out _ _ (hF.now hF.1 (rfl)))
    · refine step_og (Op.move (.tmp 21)) (some 204) 9 true 202 [9] th47tt.ns (by kernel_rfl) (by kernel_rfl) rfl (by kernel_rfl) (fun o ho hd hw0 l xs W hF hl hn K hK => ?_)
      have eg : (putZ a th47tt.ns 0 xs).eval (.tmp 202) = .bool true := (eval_z 9 (hsz 202 (by decide))).trans (hF.get 9 hn.1)
      have hw := hw0 (putZ a th47tt.ns 0 xs) (by rw [putZ_size]; exact hsz 202 (by decide)) eg
      have e1 := eval_o (xs := xs) (ns := th47tt.ns) h21
      exact value_ (v := .bool true) hw hd (w1 := W) (by simp only [execOp, ho, e1]; go_simp) (hK.out _ _ (hF.now hF.1 (rfl)))
    · refine step_og (Op.binOp .neq 4 (.tmp 203) (.tmp 204) 4) (some 205) 9 true 202 [10, 11, 9] th47tt.ns (by kernel_rfl) (by kernel_rfl) rfl (by kernel_rfl) (fun o ho hd hw0 l xs W hF hl hn K hK => ?_)
      have eg : (putZ a th47tt.ns 0 xs).eval (.tmp 202) = .bool true := (eval_z 9 (hsz 202 (by decide))).trans (hF.get 9 hn.2.2.1)
      have hw := hw0 (putZ a th47tt.ns 0 xs) (by rw [putZ_size]; exact hsz 202 (by decide)) eg
      have e0 : (putZ a th47tt.ns 0 xs).eval (.tmp 203) = .bool true := (eval_z 10 (hsz 203 (by decide))).trans (hF.get 10 hn.1)
      have e1 : (putZ a th47tt.ns 0 xs).eval (.tmp 204) = .bool true := (eval_z 11 (hsz 204 (by decide))).trans (hF.get 11 hn.2.1)
      exact value_ (v := .bool false) hw hd (w1 := W) (by simp only [Act.eval, Array.getD_eq_getD_getElem?] at e0 e1; simp only [execOp, ho]; go_simp) (hK.out _ _ (hF.now hF.1 rfl))
    · refine step_op (Op.pick (.tmp 202) (.tmp 205) (.const (.bool false))) (some 206) [9, 12] th47tt.ns (by kernel_rfl) rfl (by kernel_rfl) (fun o ho hd hw l xs W hF hl hn K hK => ?_)
      have e0 : (putZ a th47tt.ns 0 xs).eval (.tmp 202) = .bool true := (eval_z 9 (hsz 202 (by decide))).trans (hF.get 9 hn.1)
      have e1 : (putZ a th47tt.ns 0 xs).eval (.tmp 205) = .bool false := (eval_z 12 (hsz 205 (by decide))).trans (hF.get 12 hn.2.1)
      exact value_ (v := .bool false) (hw _) hd (w1 := W) (by simp only [Act.eval, Array.getD_eq_getD_getElem?] at e0 e1; simp only [execOp, ho]; go_simp) (hK.out _ _ (hF.now hF.1 rfl))
    · refine step_op (Op.move (.tmp 206)) (some 207) [13, 9] th47tt.ns (by kernel_rfl) rfl (by kernel_rfl) (fun o ho hd hw l xs W hF hl hn K hK => ?_)
      have e1 : (putZ a th47tt.ns 0 xs).eval (.tmp 206) = xs 13 := eval_z 13 (hsz 206 (by decide))
      exact value_ (v := xs 13) (hw _) hd (w1 := W) (by simp only [execOp, ho, e1]; go_simp) (hK.out _ _ (hF.now hF.1 (hF.get 13 hn.1)))
    · refine step_og (Op.move (.tmp 20)) (some 208) 14 false 207 [14] th47tt.ns (by kernel_rfl) (by kernel_rfl) rfl (by kernel_rfl) (fun o ho hd hw0 l xs W hF hl hn K hK => ?_)
      have eg : (putZ a th47tt.ns 0 xs).eval (.tmp 207) = .bool false := (eval_z 14 (hsz 207 (by decide))).trans (hF.get 14 hn.1)
      have hw := hw0 (putZ a th47tt.ns 0 xs) (by rw [putZ_size]; exact hsz 207 (by decide)) eg
      have e1 := eval_o (xs := xs) (ns := th47tt.ns) h20
      exact value_ (v := .bool true) hw hd (w1 := W) (by simp only [execOp, ho, e1]; go_simp) (hK.out _ _ (hF.now hF.1 (rfl)))
    · refine step_og (Op.move (.tmp 21)) (some 209) 14 false 207 [14] th47tt.ns (by kernel_rfl) (by kernel_rfl) rfl (by kernel_rfl) (fun o ho hd hw0 l xs W hF hl hn K hK => ?_)
      have eg : (putZ a th47tt.ns 0 xs).eval (.tmp 207) = .bool false := (eval_z 14 (hsz 207 (by decide))).trans (hF.get 14 hn.1)
      have hw := hw0 (putZ a th47tt.ns 0 xs) (by rw [putZ_size]; exact hsz 207 (by decide)) eg
      have e1 := eval_o (xs := xs) (ns := th47tt.ns) h21
      exact value_ (v := .bool true) hw hd (w1 := W) (by simp only [execOp, ho, e1]; go_simp) (hK.out _ _ (hF.now hF.1 (rfl)))
    · refine step_og (Op.binOp .eql 4 (.tmp 208) (.tmp 209) 4) (some 210) 14 false 207 [15, 16, 14] th47tt.ns (by kernel_rfl) (by kernel_rfl) rfl (by kernel_rfl) (fun o ho hd hw0 l xs W hF hl hn K hK => ?_)
      have eg : (putZ a th47tt.ns 0 xs).eval (.tmp 207) = .bool false := (eval_z 14 (hsz 207 (by decide))).trans (hF.get 14 hn.2.2.1)
      have hw := hw0 (putZ a th47tt.ns 0 xs) (by rw [putZ_size]; exact hsz 207 (by decide)) eg
      have e0 : (putZ a th47tt.ns 0 xs).eval (.tmp 208) = .bool true := (eval_z 15 (hsz 208 (by decide))).trans (hF.get 15 hn.1)
      have e1 : (putZ a th47tt.ns 0 xs).eval (.tmp 209) = .bool true := (eval_z 16 (hsz 209 (by decide))).trans (hF.get 16 hn.2.1)
      exact value_ (v := .bool true) hw hd (w1 := W) (by simp only [Act.eval, Array.getD_eq_getD_getElem?] at e0 e1; simp only [execOp, ho]; go_simp) (hK.out _ _ (hF.now hF.1 rfl))
    · refine step_og (Op.move (.tmp 210)) (some 211) 14 false 207 [17, 14, 14] th47tt.ns (by kernel_rfl) (by kernel_rfl) rfl (by kernel_rfl) (fun o ho hd hw0 l xs W hF hl hn K hK => ?_)
      have eg : (putZ a th47tt.ns 0 xs).eval (.tmp 207) = .bool false := (eval_z 14 (hsz 207 (by decide))).trans (hF.get 14 hn.2.1)
      have hw := hw0 (putZ a th47tt.ns 0 xs) (by rw [putZ_size]; exact hsz 207 (by decide)) eg
      have e1 : (putZ a th47tt.ns 0 xs).eval (.tmp 210) = xs 17 := eval_z 17 (hsz 210 (by decide))
      exact value_ (v := xs 17) hw hd (w1 := W) (by simp only [execOp, ho, e1]; go_simp) (hK.out _ _ (hF.now hF.1 (hF.get 17 hn.1)))
    · refine step_og (Op.move (.tmp 14)) (some 212) 18 true 211 [18] th47tt.ns (by kernel_rfl) (by kernel_rfl) rfl (by kernel_rfl) (fun o ho hd hw0 l xs W hF hl hn K hK => ?_)
      have eg : (putZ a th47tt.ns 0 xs).eval (.tmp 211) = .bool true := (eval_z 18 (hsz 211 (by decide))).trans (hF.get 18 hn.1)
      have hw := hw0 (putZ a th47tt.ns 0 xs) (by rw [putZ_size]; exact hsz 211 (by decide)) eg
      have e1 := eval_o (xs := xs) (ns := th47tt.ns) h14
      exact value_ (v := .slice AW nW cW) hw hd (w1 := W) (by simp only [execOp, ho, e1]; go_simp) (hK.out _ _ (hF.now hF.1 (rfl)))
    · refine step_og (Op.move (.tmp 15)) (some 213) 18 true 211 [18] th47tt.ns (by kernel_rfl) (by kernel_rfl) rfl (by kernel_rfl) (fun o ho hd hw0 l xs W hF hl hn K hK => ?_)
      have eg : (putZ a th47tt.ns 0 xs).eval (.tmp 211) = .bool true := (eval_z 18 (hsz 211 (by decide))).trans (hF.get 18 hn.1)
      have hw := hw0 (putZ a th47tt.ns 0 xs) (by rw [putZ_size]; exact hsz 211 (by decide)) eg
      have e1 := eval_o (xs := xs) (ns := th47tt.ns) h15
      exact value_ (v := .slice (some ad) n cA) hw hd (w1 := W) (by simp only [execOp, ho, e1]; go_simp) (hK.out _ _ (hF.now hF.1 (rfl)))
    · refine step_og (Op.move (.tmp 19)) (some 214) 18 true 211 [18] th47tt.ns (by kernel_rfl) (by kernel_rfl) rfl (by kernel_rfl) (fun o ho hd hw0 l xs W hF hl hn K hK => ?_)
      have eg : (putZ a th47tt.ns 0 xs).eval (.tmp 211) = .bool true := (eval_z 18 (hsz 211 (by decide))).trans (hF.get 18 hn.1)
      have hw := hw0 (putZ a th47tt.ns 0 xs) (by rw [putZ_size]; exact hsz 211 (by decide)) eg
      have e1 := eval_o (xs := xs) (ns := th47tt.ns) h19
      exact value_ (v := .int .i64 (j : Nat)) hw hd (w1 := W) (by simp only [execOp, ho, e1]; go_simp) (hK.out _ _ (hF.now hF.1 (rfl)))
    · refine step_og (Op.indexAddr 26 (.tmp 213) (.tmp 214)) (some 215) 18 true 211 [20, 21, 18] th47tt.ns (by kernel_rfl) (by kernel_rfl) rfl (by kernel_rfl) (fun o ho hd hw0 l xs W hF hl hn K hK => ?_)
      have eg : (putZ a th47tt.ns 0 xs).eval (.tmp 211) = .bool true := (eval_z 18 (hsz 211 (by decide))).trans (hF.get 18 hn.2.2.1)
      have hw := hw0 (putZ a th47tt.ns 0 xs) (by rw [putZ_size]; exact hsz 211 (by decide)) eg
      have e0 : (putZ a th47tt.ns 0 xs).eval (.tmp 213) = .slice (some ad) n cA := (eval_z 20 (hsz 213 (by decide))).trans (hF.get 20 hn.1)
      have e1 : (putZ a th47tt.ns 0 xs).eval (.tmp 214) = .int .i64 (j : Nat) := (eval_z 21 (hsz 214 (by decide))).trans (hF.get 21 hn.2.1)
      exact value_ (v := .pointer (some (ad.add (j * 3)))) hw hd (w1 := W) (by simp only [Act.eval, Array.getD_eq_getD_getElem?] at e0 e1; simp only [execOp, ho]; go_simp) (hK.out _ _ (hF.now hF.1 rfl))
    · refine step_og (Op.load 30 (.tmp 215)) (some 216) 18 true 211 [22, 18] th47tt.ns (by kernel_rfl) (by kernel_rfl) rfl (by kernel_rfl) (fun o ho hd hw0 l xs W hF hl hn K hK => ?_)
      have eg : (putZ a th47tt.ns 0 xs).eval (.tmp 211) = .bool true := (eval_z 18 (hsz 211 (by decide))).trans (hF.get 18 hn.2.1)
      have hw := hw0 (putZ a th47tt.ns 0 xs) (by rw [putZ_size]; exact hsz 211 (by decide)) eg
      have e0 : (putZ a th47tt.ns 0 xs).eval (.tmp 215) = .pointer (some (ad.add (j * 3))) := (eval_z 22 (hsz 215 (by decide))).trans (hF.get 22 hn.1)
      obtain ⟨q0, q1, q2⟩ := hcel W hF.1
      exact value_ (v := .agg #[.string y.f0, .string y.f1, .string y.f2]) hw hd (w1 := W) (by simp only [Act.eval, Array.getD_eq_getD_getElem?] at e0; simp only [execOp, ho]; go_simp) (hK.out _ _ (hF.now hF.1 rfl))
    · refine step_og (Op.build 53 #[(0, .tmp 216)]) (some 217) 18 true 211 [23, 18] th47tt.ns (by kernel_rfl) (by kernel_rfl) rfl (by kernel_rfl) (fun o ho hd hw0 l xs W hF hl hn K hK => ?_)
      have eg : (putZ a th47tt.ns 0 xs).eval (.tmp 211) = .bool true := (eval_z 18 (hsz 211 (by decide))).trans (hF.get 18 hn.2.1)
      have hw := hw0 (putZ a th47tt.ns 0 xs) (by rw [putZ_size]; exact hsz 211 (by decide)) eg
      have e0 : (putZ a th47tt.ns 0 xs).eval (.tmp 216) = .agg #[.string y.f0, .string y.f1, .string y.f2] := (eval_z 23 (hsz 216 (by decide))).trans (hF.get 23 hn.1)
      exact value_ (v := .agg #[.string y.f0, .string y.f1, .string y.f2, .bool false]) hw hd (w1 := W) (by simp only [Act.eval, Array.getD_eq_getD_getElem?] at e0; simp only [execOp, ho]; go_simp) (hK.out _ _ (hF.now hF.1 rfl))
    · refine step_og (Op.call { callee := .value (.func 40), args := #[.tmp 212, .tmp 217], argTypes := #[47, 53] }) (some 218) 18 true 211 [19, 24, 18, 18] th47tt.ns (by kernel_rfl) (by kernel_rfl) rfl (by kernel_rfl) (fun o ho hd hw0 l xs W hF hl hn K hK => ?_)
      have eg : (putZ a th47tt.ns 0 xs).eval (.tmp 211) = .bool true := (eval_z 18 (hsz 211 (by decide))).trans (hF.get 18 hn.2.2.1)
      have hw := hw0 (putZ a th47tt.ns 0 xs) (by rw [putZ_size]; exact hsz 211 (by decide)) eg
      have e0 : (putZ a th47tt.ns 0 xs).eval (.tmp 212) = .slice AW nW cW := (eval_z 19 (hsz 212 (by decide))).trans (hF.get 19 hn.1)
      have e1 : (putZ a th47tt.ns 0 xs).eval (.tmp 217) = .agg #[.string y.f0, .string y.f1, .string y.f2, .bool false] := (eval_z 24 (hsz 217 (by decide))).trans (hF.get 24 hn.2.1)
      refine goes_ Try.func40 (by kernel_rfl) rfl #[.slice AW nW cW, .agg #[.string y.f0, .string y.f1, .string y.f2, .bool false]] hw hd ho (by simp only [List.map_toArray, List.map_cons, List.map_nil, e0, e1]) ?_
      refine (hTf W hF.1).mono ?_
      rintro e W' ⟨rfl, hb⟩
      exact ⟨_, rfl, hK.out _ _ (hF.up (hF.1.trans (hb.mono hF.1.size)) (fun j v _ _ h => th47tt.mono j h hb) (rfl))⟩
    · refine step_og (Op.move (.tmp 14)) (some 219) 18 true 211 [18] th47tt.ns (by kernel_rfl) (by kernel_rfl) rfl (by kernel_rfl) (fun o ho hd hw0 l xs W hF hl hn K hK => ?_)
      have eg : (putZ a th47tt.ns 0 xs).eval (.tmp 211) = .bool true := (eval_z 18 (hsz 211 (by decide))).trans (hF.get 18 hn.1)
      have hw := hw0 (putZ a th47tt.ns 0 xs) (by rw [putZ_size]; exact hsz 211 (by decide)) eg
      have e1 := eval_o (xs := xs) (ns := th47tt.ns) h14
      exact value_ (v := .slice AW nW cW) hw hd (w1 := W) (by simp only [execOp, ho, e1]; go_simp) (hK.out _ _ (hF.now hF.1 (rfl)))
    · refine step_og (Op.move (.tmp 15)) (some 220) 18 true 211 [18] th47tt.ns (by kernel_rfl) (by kernel_rfl) rfl (by kernel_rfl) (fun o ho hd hw0 l xs W hF hl hn K hK => ?_)
      have eg : (putZ a th47tt.ns 0 xs).eval (.tmp 211) = .bool true := (eval_z 18 (hsz 211 (by decide))).trans (hF.get 18 hn.1)
      have hw := hw0 (putZ a th47tt.ns 0 xs) (by rw [putZ_size]; exact hsz 211 (by decide)) eg
      have e1 := eval_o (xs := xs) (ns := th47tt.ns) h15
      exact value_ (v := .slice (some ad) n cA) hw hd (w1 := W) (by simp only [execOp, ho, e1]; go_simp) (hK.out _ _ (hF.now hF.1 (rfl)))
    · refine step_og (Op.move (.tmp 19)) (some 221) 18 true 211 [18] th47tt.ns (by kernel_rfl) (by kernel_rfl) rfl (by kernel_rfl) (fun o ho hd hw0 l xs W hF hl hn K hK => ?_)
      have eg : (putZ a th47tt.ns 0 xs).eval (.tmp 211) = .bool true := (eval_z 18 (hsz 211 (by decide))).trans (hF.get 18 hn.1)
      have hw := hw0 (putZ a th47tt.ns 0 xs) (by rw [putZ_size]; exact hsz 211 (by decide)) eg
      have e1 := eval_o (xs := xs) (ns := th47tt.ns) h19
      exact value_ (v := .int .i64 (j : Nat)) hw hd (w1 := W) (by simp only [execOp, ho, e1]; go_simp) (hK.out _ _ (hF.now hF.1 (rfl)))
    · refine step_og (Op.indexAddr 26 (.tmp 220) (.tmp 221)) (some 222) 18 true 211 [27, 28, 18] th47tt.ns (by kernel_rfl) (by kernel_rfl) rfl (by kernel_rfl) (fun o ho hd hw0 l xs W hF hl hn K hK => ?_)
      have eg : (putZ a th47tt.ns 0 xs).eval (.tmp 211) = .bool true := (eval_z 18 (hsz 211 (by decide))).trans (hF.get 18 hn.2.2.1)
      have hw := hw0 (putZ a th47tt.ns 0 xs) (by rw [putZ_size]; exact hsz 211 (by decide)) eg
      have e0 : (putZ a th47tt.ns 0 xs).eval (.tmp 220) = .slice (some ad) n cA := (eval_z 27 (hsz 220 (by decide))).trans (hF.get 27 hn.1)
      have e1 : (putZ a th47tt.ns 0 xs).eval (.tmp 221) = .int .i64 (j : Nat) := (eval_z 28 (hsz 221 (by decide))).trans (hF.get 28 hn.2.1)
      exact value_ (v := .pointer (some (ad.add (j * 3)))) hw hd (w1 := W) (by simp only [Act.eval, Array.getD_eq_getD_getElem?] at e0 e1; simp only [execOp, ho]; go_simp) (hK.out _ _ (hF.now hF.1 rfl))
    · refine step_og (Op.load 30 (.tmp 222)) (some 223) 18 true 211 [29, 18] th47tt.ns (by kernel_rfl) (by kernel_rfl) rfl (by kernel_rfl) (fun o ho hd hw0 l xs W hF hl hn K hK => ?_)
      have eg : (putZ a th47tt.ns 0 xs).eval (.tmp 211) = .bool true := (eval_z 18 (hsz 211 (by decide))).trans (hF.get 18 hn.2.1)
      have hw := hw0 (putZ a th47tt.ns 0 xs) (by rw [putZ_size]; exact hsz 211 (by decide)) eg
      have e0 : (putZ a th47tt.ns 0 xs).eval (.tmp 222) = .pointer (some (ad.add (j * 3))) := (eval_z 29 (hsz 222 (by decide))).trans (hF.get 29 hn.1)
      obtain ⟨q0, q1, q2⟩ := hcel W hF.1
      exact value_ (v := .agg #[.string y.f0, .string y.f1, .string y.f2]) hw hd (w1 := W) (by simp only [Act.eval, Array.getD_eq_getD_getElem?] at e0; simp only [execOp, ho]; go_simp) (hK.out _ _ (hF.now hF.1 rfl))
    · refine step_og (Op.build 53 #[(0, .tmp 223), (1, .const (.bool true))]) (some 224) 18 true 211 [30, 18] th47tt.ns (by kernel_rfl) (by kernel_rfl) rfl (by kernel_rfl) (fun o ho hd hw0 l xs W hF hl hn K hK => ?_)
      have eg : (putZ a th47tt.ns 0 xs).eval (.tmp 211) = .bool true := (eval_z 18 (hsz 211 (by decide))).trans (hF.get 18 hn.2.1)
      have hw := hw0 (putZ a th47tt.ns 0 xs) (by rw [putZ_size]; exact hsz 211 (by decide)) eg
      have e0 : (putZ a th47tt.ns 0 xs).eval (.tmp 223) = .agg #[.string y.f0, .string y.f1, .string y.f2] := (eval_z 30 (hsz 223 (by decide))).trans (hF.get 30 hn.1)
      exact value_ (v := .agg #[.string y.f0, .string y.f1, .string y.f2, .bool true]) hw hd (w1 := W) (by simp only [Act.eval, Array.getD_eq_getD_getElem?] at e0; simp only [execOp, ho]; go_simp) (hK.out _ _ (hF.now hF.1 rfl))
    · refine step_og (Op.call { callee := .value (.func 40), args := #[.tmp 219, .tmp 224], argTypes := #[47, 53] }) (some 225) 18 true 211 [26, 31, 25, 18] th47tt.ns (by kernel_rfl) (by kernel_rfl) rfl (by kernel_rfl) (fun o ho hd hw0 l xs W hF hl hn K hK => ?_)
      have eg : (putZ a th47tt.ns 0 xs).eval (.tmp 211) = .bool true := (eval_z 18 (hsz 211 (by decide))).trans (hF.get 18 hn.2.2.2.1)
      have hw := hw0 (putZ a th47tt.ns 0 xs) (by rw [putZ_size]; exact hsz 211 (by decide)) eg
      have e0 : (putZ a th47tt.ns 0 xs).eval (.tmp 219) = .slice AW nW cW := (eval_z 26 (hsz 219 (by decide))).trans (hF.get 26 hn.1)
      have e1 : (putZ a th47tt.ns 0 xs).eval (.tmp 224) = .agg #[.string y.f0, .string y.f1, .string y.f2, .bool true] := (eval_z 31 (hsz 224 (by decide))).trans (hF.get 31 hn.2.1)
      refine goes_ Try.func40 (by kernel_rfl) rfl #[.slice AW nW cW, .agg #[.string y.f0, .string y.f1, .string y.f2, .bool true]] hw hd ho (by simp only [List.map_toArray, List.map_cons, List.map_nil, e0, e1]) ?_
      refine (hTt W hF.1).mono ?_
      rintro e W' ⟨rfl, hb⟩
      exact ⟨_, rfl, hK.out _ _ (hF.up (hF.1.trans (hb.mono hF.1.size)) (fun j v _ _ h => th47tt.mono j h hb) (rfl))⟩
    · refine step_og (Op.binOp .add 3 (.tmp 218) (.tmp 225) 3) (some 226) 18 true 211 [25, 32, 18] th47tt.ns (by kernel_rfl) (by kernel_rfl) rfl (by kernel_rfl) (fun o ho hd hw0 l xs W hF hl hn K hK => ?_)
      have eg : (putZ a th47tt.ns 0 xs).eval (.tmp 211) = .bool true := (eval_z 18 (hsz 211 (by decide))).trans (hF.get 18 hn.2.2.1)
      have hw := hw0 (putZ a th47tt.ns 0 xs) (by rw [putZ_size]; exact hsz 211 (by decide)) eg
      have e0 : (putZ a th47tt.ns 0 xs).eval (.tmp 218) = .int .i64 0 := (eval_z 25 (hsz 218 (by decide))).trans (hF.get 25 hn.1)
      have e1 : (putZ a th47tt.ns 0 xs).eval (.tmp 225) = .int .i64 0 := (eval_z 32 (hsz 225 (by decide))).trans (hF.get 32 hn.2.1)
      exact value_ (v := .int .i64 0) hw hd (w1 := W) (by simp only [Act.eval, Array.getD_eq_getD_getElem?] at e0 e1; simp only [execOp, ho]; first | (go_simp; done) | (go_simp; rfl) | (go_simp; simp [wrap64]; done)) (hK.out _ _ (hF.now hF.1 rfl))
    · refine step_og (Op.binOp .neq 3 (.tmp 226) (.const (.int .i64 0)) 3) (some 227) 18 true 211 [33, 18] th47tt.ns (by kernel_rfl) (by kernel_rfl) rfl (by kernel_rfl) (fun o ho hd hw0 l xs W hF hl hn K hK => ?_)
      have eg : (putZ a th47tt.ns 0 xs).eval (.tmp 211) = .bool true := (eval_z 18 (hsz 211 (by decide))).trans (hF.get 18 hn.2.1)
      have hw := hw0 (putZ a th47tt.ns 0 xs) (by rw [putZ_size]; exact hsz 211 (by decide)) eg
      have e0 : (putZ a th47tt.ns 0 xs).eval (.tmp 226) = .int .i64 0 := (eval_z 33 (hsz 226 (by decide))).trans (hF.get 33 hn.1)
      exact value_ (v := .bool false) hw hd (w1 := W) (by simp only [Act.eval, Array.getD_eq_getD_getElem?] at e0; simp only [execOp, ho]; go_simp) (hK.out _ _ (hF.now hF.1 rfl))
    · refine step_og (Op.pick (.tmp 211) (.tmp 227) (.const (.bool false))) (some 228) 14 false 207 [18, 34, 14] th47tt.ns (by kernel_rfl) (by kernel_rfl) rfl (by kernel_rfl) (fun o ho hd hw0 l xs W hF hl hn K hK => ?_)
      have eg : (putZ a th47tt.ns 0 xs).eval (.tmp 207) = .bool false := (eval_z 14 (hsz 207 (by decide))).trans (hF.get 14 hn.2.2.1)
      have hw := hw0 (putZ a th47tt.ns 0 xs) (by rw [putZ_size]; exact hsz 207 (by decide)) eg
      have e0 : (putZ a th47tt.ns 0 xs).eval (.tmp 211) = .bool true := (eval_z 18 (hsz 211 (by decide))).trans (hF.get 18 hn.1)
      have e1 : (putZ a th47tt.ns 0 xs).eval (.tmp 227) = .bool false := (eval_z 34 (hsz 227 (by decide))).trans (hF.get 34 hn.2.1)
      exact value_ (v := .bool false) hw hd (w1 := W) (by simp only [Act.eval, Array.getD_eq_getD_getElem?] at e0 e1; simp only [execOp, ho]; go_simp) (hK.out _ _ (hF.now hF.1 rfl))
    · refine step_op (Op.pick (.tmp 207) (.const (.bool true)) (.tmp 228)) (some 229) [14, 35] th47tt.ns (by kernel_rfl) rfl (by kernel_rfl) (fun o ho hd hw l xs W hF hl hn K hK => ?_)
      have e0 : (putZ a th47tt.ns 0 xs).eval (.tmp 207) = .bool false := (eval_z 14 (hsz 207 (by decide))).trans (hF.get 14 hn.1)
      have e1 : (putZ a th47tt.ns 0 xs).eval (.tmp 228) = .bool false := (eval_z 35 (hsz 228 (by decide))).trans (hF.get 35 hn.2.1)
      exact value_ (v := .bool false) (hw _) hd (w1 := W) (by simp only [Act.eval, Array.getD_eq_getD_getElem?] at e0 e1; simp only [execOp, ho]; go_simp) (hK.out _ _ (hF.now hF.1 rfl))
abbrev th47ff.ns : List (Option Tmp) := [some 193, some 194, some 195, some 196, some 197, some 198, some 199, some 200, some 201, some 202, some 203, some 204, some 205, some 206, some 207, some 208, some 209, some 210, some 211, some 212, some 213, some 214, some 215, some 216, some 217, some 218, some 219, some 220, some 221, some 222, some 223, some 224, some 225, some 226, some 227, some 228, some 229]
def th47ff.T : Bool × List (List Nat × List Nat) := (true, [([], []), ([], []), ([], []), ([1, 2], [1, 2]), ([3], [3]), ([], []), ([4, 5], [4, 5]), ([0, 6], [0, 6]), ([7], [7]), ([8, 7], [8]), ([9], [9]), ([9], [9]), ([10, 11, 9], [9, 10, 11]), ([9, 12], [9, 12]), ([13, 9], [13]), ([14], [14]), ([14], [14]), ([15, 16, 14], [14, 15, 16]), ([17, 14, 14], [14, 17]), ([18], [18]), ([18], [18]), ([18], [18]), ([20, 21, 18], [18, 20, 21]), ([22, 18], [18, 22]), ([23, 18], [18, 23]), ([19, 24, 18, 18], [18, 19, 24]), ([18], [18]), ([18], [18]), ([18], [18]), ([27, 28, 18], [18, 27, 28]), ([29, 18], [18, 29]), ([30, 18], [18, 30]), ([26, 31, 25, 18], [18, 26, 31]), ([25, 32, 18], [18, 25, 32]), ([33, 18], [18, 33]), ([18, 34, 14], [14, 18, 34]), ([14, 35], [14, 35])])
theorem th47ff.tab : rtab .any (opsOf Try.f11 47) = th47ff.T := by kernel_rfl
def th47ff.V (y : Tri) (ad : Addr) (n cA j : Nat) (AW : Option Addr) (nW cW : Nat) : Nat → Value → World → Prop
  | 0 => IsV (.slice AW nW cW)
  | 1 => IsV (.slice (some ad) n cA)
  | 2 => IsV (.int .i64 (j : Nat))
  | 3 => IsV (.pointer (some (ad.add (j * 3))))
  | 4 => IsV (.agg #[.string y.f0, .string y.f1, .string y.f2])
  | 5 => IsV (.bool false)
  | 6 => IsV (.agg #[.string y.f0, .string y.f1, .string y.f2, .bool false])
  | 7 => IsV (.int .i64 0)
  | 8 => IsV (.bool true)
  | 9 => IsV (.bool true)
  | 10 => IsV (.bool false)
  | 11 => IsV (.bool false)
  | 12 => IsV (.bool false)
  | 13 => IsV (.bool false)
  | 14 => IsV (.bool false)
  | 15 => IsV (.bool false)
  | 16 => IsV (.bool false)
  | 17 => IsV (.bool true)
  | 18 => IsV (.bool true)
  | 19 => IsV (.slice AW nW cW)
  | 20 => IsV (.slice (some ad) n cA)
  | 21 => IsV (.int .i64 (j : Nat))
  | 22 => IsV (.pointer (some (ad.add (j * 3))))
  | 23 => IsV (.agg #[.string y.f0, .string y.f1, .string y.f2])
  | 24 => IsV (.agg #[.string y.f0, .string y.f1, .string y.f2, .bool false])
  | 25 => IsV (.int .i64 0)
  | 26 => IsV (.slice AW nW cW)
  | 27 => IsV (.slice (some ad) n cA)
  | 28 => IsV (.int .i64 (j : Nat))
  | 29 => IsV (.pointer (some (ad.add (j * 3))))
  | 30 => IsV (.agg #[.string y.f0, .string y.f1, .string y.f2])
  | 31 => IsV (.agg #[.string y.f0, .string y.f1, .string y.f2, .bool true])
  | 32 => IsV (.int .i64 0)
  | 33 => IsV (.int .i64 0)
  | 34 => IsV (.bool false)
  | 35 => IsV (.bool false)
  | 36 => IsV (.bool false)
  | _ => fun _ _ => True
theorem th47ff.mono {y : Tri} {ad : Addr} {n cA j : Nat} {AW : Option Addr} {nW cW : Nat} : ∀ (j_ : Nat) {v : Value} {W W' : World}, th47ff.V y ad n cA j AW nW cW j_ v W → Below W.heap.size W W' → th47ff.V y ad n cA j AW nW cW j_ v W'
  | 0, _, _, _, h, hb => h
  | 1, _, _, _, h, hb => h
  | 2, _, _, _, h, hb => h
  | 3, _, _, _, h, hb => h
  | 4, _, _, _, h, hb => h
  | 5, _, _, _, h, hb => h
  | 6, _, _, _, h, hb => h
  | 7, _, _, _, h, hb => h
  | 8, _, _, _, h, hb => h
  | 9, _, _, _, h, hb => h
  | 10, _, _, _, h, hb => h
  | 11, _, _, _, h, hb => h
  | 12, _, _, _, h, hb => h
  | 13, _, _, _, h, hb => h
  | 14, _, _, _, h, hb => h
  | 15, _, _, _, h, hb => h
  | 16, _, _, _, h, hb => h
  | 17, _, _, _, h, hb => h
  | 18, _, _, _, h, hb => h
  | 19, _, _, _, h, hb => h
  | 20, _, _, _, h, hb => h
  | 21, _, _, _, h, hb => h
  | 22, _, _, _, h, hb => h
  | 23, _, _, _, h, hb => h
  | 24, _, _, _, h, hb => h
  | 25, _, _, _, h, hb => h
  | 26, _, _, _, h, hb => h
  | 27, _, _, _, h, hb => h
  | 28, _, _, _, h, hb => h
  | 29, _, _, _, h, hb => h
  | 30, _, _, _, h, hb => h
  | 31, _, _, _, h, hb => h
  | 32, _, _, _, h, hb => h
  | 33, _, _, _, h, hb => h
  | 34, _, _, _, h, hb => h
  | 35, _, _, _, h, hb => h
  | 36, _, _, _, h, hb => h
  | n + 37, _, _, _, _, _ => trivial
set_option maxRecDepth 100000 in
set_option maxHeartbeats 2000000 in
theorem th47ff.region {Q : Exit → Act → World → Prop} {id : Nat} {a : Act} {w : World} (y : Tri) (ad : Addr) (n cA j : Nat) (AW : Option Addr) (nW cW : Nat) (i0 : (0 : Int) ≤ (j : Int)) (i1 : (j : Int) < (n : Int)) (hcel : ∀ W, Below w.heap.size w W → W.cell? (ad.add (j * 3)) = some (.string y.f0) ∧ W.cell? ⟨(ad.add (j * 3)).block, (ad.add (j * 3)).off + 1, none⟩ = some (.string y.f1) ∧ W.cell? ⟨(ad.add (j * 3)).block, (ad.add (j * 3)).off + 2, none⟩ = some (.string y.f2)) (hTb : ∀ W, Below w.heap.size w W → Calls Try.prog 40 #[.slice AW nW cW, .agg #[.string y.f0, .string y.f1, .string y.f2, .bool false]] W fun e W' => e = .returned (.int .i64 0) ∧ Below W.heap.size W W') (hTf : ∀ W, Below w.heap.size w W → Calls Try.prog 40 #[.slice AW nW cW, .agg #[.string y.f0, .string y.f1, .string y.f2, .bool false]] W fun e W' => e = .returned (.int .i64 0) ∧ Below W.heap.size W W') (hTt : ∀ W, Below w.heap.size w W → Calls Try.prog 40 #[.slice AW nW cW, .agg #[.string y.f0, .string y.f1, .string y.f2, .bool true]] W fun e W' => e = .returned (.int .i64 0) ∧ Below W.heap.size W W') (hm : Try.prog.follows .mixedOrders = true) (hs : a.tmps.size = 230)  (h14 : a.eval (.tmp 14) = .slice AW nW cW) (h15 : a.eval (.tmp 15) = .slice (some ad) n cA) (h19 : a.eval (.tmp 19) = .int .i64 (j : Nat)) (h20 : a.eval (.tmp 20) = .bool false) (h21 : a.eval (.tmp 21) = .bool false)
    (hdone : ∀ (xs : Nat → Value) (W : World), Below w.heap.size w W → IsV (.bool false) (xs 36) W → Q .normal (putZ a th47ff.ns 0 xs) W) :
    (Code.region id (opsOf Try.f11 47) true).wp Try.prog Q a w := by
  refine region_pred (T := th47ff.T) 37 (fun _ W => Below w.heap.size w W) (th47ff.V y ad n cA j AW nW cW) hm (by kernel_rfl) th47ff.tab (by kernel_rfl) (by kernel_rfl) (below_drew (Below.refl _ _)) (fun _ h => h) ?hsteps ?hd
  case hd => exact fun xs W hI hV => hdone xs W hI (hV 36 (by decide))
  case hsteps =>
    have hsz : ∀ t, t < 230 → t < a.tmps.size := fun t ht => by rw [hs]; exact ht
    refine ⟨?_, ?_, ?_, ?_, ?_, ?_, ?_, ?_, ?_, ?_, ?_, ?_, ?_, ?_, ?_, ?_, ?_, ?_, ?_, ?_, ?_, ?_, ?_, ?_, ?_, ?_, ?_, ?_, ?_, ?_, ?_, ?_, ?_, ?_, ?_, ?_, ?_, trivial⟩
    · refine step_op (Op.move (.tmp 14)) (some 193) [] th47ff.ns (by kernel_rfl) rfl (by kernel_rfl) (fun o ho hd hw l xs W hF hl hn K hK => ?_)
      have e1 := eval_o (xs := xs) (ns := th47ff.ns) h14
      exact value_ (v := .slice AW nW cW) (hw _) hd (w1 := W) (by simp only [execOp, ho, e1]; go_simp) (hK.out _ _ (hF.now hF.1 (rfl)))
    · refine step_op (Op.move (.tmp 15)) (some 194) [] th47ff.ns (by kernel_rfl) rfl (by kernel_rfl) (fun o ho hd hw l xs W hF hl hn K hK => ?_)
      have e1 := eval_o (xs := xs) (ns := th47ff.ns) h15
      exact value_ (v := .slice (some ad) n cA) (hw _) hd (w1 := W) (by simp only [execOp, ho, e1]; go_simp) (hK.out _ _ (hF.now hF.1 (rfl)))
    · refine step_op (Op.move (.tmp 19)) (some 195) [] th47ff.ns (by kernel_rfl) rfl (by kernel_rfl) (fun o ho hd hw l xs W hF hl hn K hK => ?_)
      have e1 := eval_o (xs := xs) (ns := th47ff.ns) h19
      exact value_ (v := .int .i64 (j : Nat)) (hw _) hd (w1 := W) (by simp only [execOp, ho, e1]; go_simp) (hK.out _ _ (hF.now hF.1 (rfl)))
    · refine step_op (Op.indexAddr 26 (.tmp 194) (.tmp 195)) (some 196) [1, 2] th47ff.ns (by kernel_rfl) rfl (by kernel_rfl) (fun o ho hd hw l xs W hF hl hn K hK => ?_)
      have e0 : (putZ a th47ff.ns 0 xs).eval (.tmp 194) = .slice (some ad) n cA := (eval_z 1 (hsz 194 (by decide))).trans (hF.get 1 hn.1)
      have e1 : (putZ a th47ff.ns 0 xs).eval (.tmp 195) = .int .i64 (j : Nat) := (eval_z 2 (hsz 195 (by decide))).trans (hF.get 2 hn.2.1)
      exact value_ (v := .pointer (some (ad.add (j * 3)))) (hw _) hd (w1 := W) (by simp only [Act.eval, Array.getD_eq_getD_getElem?] at e0 e1; simp only [execOp, ho]; go_simp) (hK.out _ _ (hF.now hF.1 rfl))
    · refine step_op (Op.load 30 (.tmp 196)) (some 197) [3] th47ff.ns (by kernel_rfl) rfl (by kernel_rfl) (fun o ho hd hw l xs W hF hl hn K hK => ?_)
      have e0 : (putZ a th47ff.ns 0 xs).eval (.tmp 196) = .pointer (some (ad.add (j * 3))) := (eval_z 3 (hsz 196 (by decide))).trans (hF.get 3 hn.1)
      obtain ⟨q0, q1, q2⟩ := hcel W hF.1
      exact value_ (v := .agg #[.string y.f0, .string y.f1, .string y.f2]) (hw _) hd (w1 := W) (by simp only [Act.eval, Array.getD_eq_getD_getElem?] at e0; simp only [execOp, ho]; go_simp) (hK.out _ _ (hF.now hF.1 rfl))
    · refine step_op (Op.move (.tmp 20)) (some 198) [] th47ff.ns (by kernel_rfl) rfl (by kernel_rfl) (fun o ho hd hw l xs W hF hl hn K hK => ?_)
      have e1 := eval_o (xs := xs) (ns := th47ff.ns) h20
      exact value_ (v := .bool false) (hw _) hd (w1 := W) (by simp only [execOp, ho, e1]; go_simp) (hK.out _ _ (hF.now hF.1 (rfl)))
    · refine step_op (Op.build 53 #[(0, .tmp 197), (1, .tmp 198)]) (some 199) [4, 5] th47ff.ns (by kernel_rfl) rfl (by kernel_rfl) (fun o ho hd hw l xs W hF hl hn K hK => ?_)
      have e0 : (putZ a th47ff.ns 0 xs).eval (.tmp 197) = .agg #[.string y.f0, .string y.f1, .string y.f2] := (eval_z 4 (hsz 197 (by decide))).trans (hF.get 4 hn.1)
      have e1 : (putZ a th47ff.ns 0 xs).eval (.tmp 198) = .bool false := (eval_z 5 (hsz 198 (by decide))).trans (hF.get 5 hn.2.1)
      exact value_ (v := .agg #[.string y.f0, .string y.f1, .string y.f2, .bool false]) (hw _) hd (w1 := W) (by simp only [Act.eval, Array.getD_eq_getD_getElem?] at e0 e1; simp only [execOp, ho]; go_simp) (hK.out _ _ (hF.now hF.1 rfl))
    · refine step_op (Op.call { callee := .value (.func 40), args := #[.tmp 193, .tmp 199], argTypes := #[47, 53] }) (some 200) [0, 6] th47ff.ns (by kernel_rfl) rfl (by kernel_rfl) (fun o ho hd hw l xs W hF hl hn K hK => ?_)
      have e0 : (putZ a th47ff.ns 0 xs).eval (.tmp 193) = .slice AW nW cW := (eval_z 0 (hsz 193 (by decide))).trans (hF.get 0 hn.1)
      have e1 : (putZ a th47ff.ns 0 xs).eval (.tmp 199) = .agg #[.string y.f0, .string y.f1, .string y.f2, .bool false] := (eval_z 6 (hsz 199 (by decide))).trans (hF.get 6 hn.2.1)
      refine goes_ Try.func40 (by kernel_rfl) rfl #[.slice AW nW cW, .agg #[.string y.f0, .string y.f1, .string y.f2, .bool false]] (hw _) hd ho (by simp only [List.map_toArray, List.map_cons, List.map_nil, e0, e1]) ?_
      refine (hTb W hF.1).mono ?_
      rintro e W' ⟨rfl, hb⟩
      exact ⟨_, rfl, hK.out _ _ (hF.up (hF.1.trans (hb.mono hF.1.size)) (fun j v _ _ h => th47ff.mono j h hb) (rfl))⟩
    · refine step_op (Op.binOp .neq 3 (.tmp 200) (.const (.int .i64 1)) 3) (some 201) [7] th47ff.ns (by kernel_rfl) rfl (by kernel_rfl) (fun o ho hd hw l xs W hF hl hn K hK => ?_)
      have e0 : (putZ a th47ff.ns 0 xs).eval (.tmp 200) = .int .i64 0 := (eval_z 7 (hsz 200 (by decide))).trans (hF.get 7 hn.1)
      exact value_ (v := .bool true) (hw _) hd (w1 := W) (by simp only [Act.eval, Array.getD_eq_getD_getElem?] at e0; simp only [execOp, ho]; go_simp) (hK.out _ _ (hF.now hF.1 rfl))
    · refine step_op (Op.move (.tmp 201)) (some 202) [8, 7] th47ff.ns (by kernel_rfl) rfl (by kernel_rfl) (fun o ho hd hw l xs W hF hl hn K hK => ?_)
      have e1 : (putZ a th47ff.ns 0 xs).eval (.tmp 201) = xs 8 := eval_z 8 (hsz 201 (by decide))
      exact value_ (v := xs 8) (hw _) hd (w1 := W) (by simp only [execOp, ho, e1]; go_simp) (hK.out _ _ (hF.now hF.1 (hF.get 8 hn.1)))
    · refine step_og (Op.move (.tmp 20)) (some 203) 9 true 202 [9] th47ff.ns (by kernel_rfl) (by kernel_rfl) rfl (by kernel_rfl) (fun o ho hd hw0 l xs W hF hl hn K hK => ?_)
      have eg : (putZ a th47ff.ns 0 xs).eval (.tmp 202) = .bool true := (eval_z 9 (hsz 202 (by decide))).trans (hF.get 9 hn.1)
      have hw := hw0 (putZ a th47ff.ns 0 xs) (by rw [putZ_size]; exact hsz 202 (by decide)) eg
      have e1 := eval_o (xs := xs) (ns := th47ff.ns) h20
      exact value_ (v := .bool false) hw hd (w1 := W) (by simp only [execOp, ho, e1]; go_simp) (hK.out _ _ (hF.now hF.1 (rfl)))
    · refine step_og (Op.move (.tmp 21)) (some 204) 9 true 202 [9] th47ff.ns (by kernel_rfl) (by kernel_rfl) rfl (by kernel_rfl) (fun o ho hd hw0 l xs W hF hl hn K hK => ?_)
      have eg : (putZ a th47ff.ns 0 xs).eval (.tmp 202) = .bool true := (eval_z 9 (hsz 202 (by decide))).trans (hF.get 9 hn.1)
      have hw := hw0 (putZ a th47ff.ns 0 xs) (by rw [putZ_size]; exact hsz 202 (by decide)) eg
      have e1 := eval_o (xs := xs) (ns := th47ff.ns) h21
      exact value_ (v := .bool false) hw hd (w1 := W) (by simp only [execOp, ho, e1]; go_simp) (hK.out _ _ (hF.now hF.1 (rfl)))
    · refine step_og (Op.binOp .neq 4 (.tmp 203) (.tmp 204) 4) (some 205) 9 true 202 [10, 11, 9] th47ff.ns (by kernel_rfl) (by kernel_rfl) rfl (by kernel_rfl) (fun o ho hd hw0 l xs W hF hl hn K hK => ?_)
      have eg : (putZ a th47ff.ns 0 xs).eval (.tmp 202) = .bool true := (eval_z 9 (hsz 202 (by decide))).trans (hF.get 9 hn.2.2.1)
      have hw := hw0 (putZ a th47ff.ns 0 xs) (by rw [putZ_size]; exact hsz 202 (by decide)) eg
      have e0 : (putZ a th47ff.ns 0 xs).eval (.tmp 203) = .bool false := (eval_z 10 (hsz 203 (by decide))).trans (hF.get 10 hn.1)
      have e1 : (putZ a th47ff.ns 0 xs).eval (.tmp 204) = .bool false := (eval_z 11 (hsz 204 (by decide))).trans (hF.get 11 hn.2.1)
      exact value_ (v := .bool false) hw hd (w1 := W) (by simp only [Act.eval, Array.getD_eq_getD_getElem?] at e0 e1; simp only [execOp, ho]; go_simp) (hK.out _ _ (hF.now hF.1 rfl))
    · refine step_op (Op.pick (.tmp 202) (.tmp 205) (.const (.bool false))) (some 206) [9, 12] th47ff.ns (by kernel_rfl) rfl (by kernel_rfl) (fun o ho hd hw l xs W hF hl hn K hK => ?_)
      have e0 : (putZ a th47ff.ns 0 xs).eval (.tmp 202) = .bool true := (eval_z 9 (hsz 202 (by decide))).trans (hF.get 9 hn.1)
      have e1 : (putZ a th47ff.ns 0 xs).eval (.tmp 205) = .bool false := (eval_z 12 (hsz 205 (by decide))).trans (hF.get 12 hn.2.1)
      exact value_ (v := .bool false) (hw _) hd (w1 := W) (by simp only [Act.eval, Array.getD_eq_getD_getElem?] at e0 e1; simp only [execOp, ho]; go_simp) (hK.out _ _ (hF.now hF.1 rfl))
    · refine step_op (Op.move (.tmp 206)) (some 207) [13, 9] th47ff.ns (by kernel_rfl) rfl (by kernel_rfl) (fun o ho hd hw l xs W hF hl hn K hK => ?_)
      have e1 : (putZ a th47ff.ns 0 xs).eval (.tmp 206) = xs 13 := eval_z 13 (hsz 206 (by decide))
      exact value_ (v := xs 13) (hw _) hd (w1 := W) (by simp only [execOp, ho, e1]; go_simp) (hK.out _ _ (hF.now hF.1 (hF.get 13 hn.1)))
    · refine step_og (Op.move (.tmp 20)) (some 208) 14 false 207 [14] th47ff.ns (by kernel_rfl) (by kernel_rfl) rfl (by kernel_rfl) (fun o ho hd hw0 l xs W hF hl hn K hK => ?_)
      have eg : (putZ a th47ff.ns 0 xs).eval (.tmp 207) = .bool false := (eval_z 14 (hsz 207 (by decide))).trans (hF.get 14 hn.1)
      have hw := hw0 (putZ a th47ff.ns 0 xs) (by rw [putZ_size]; exact hsz 207 (by decide)) eg
      have e1 := eval_o (xs := xs) (ns := th47ff.ns) h20
      exact value_ (v := .bool false) hw hd (w1 := W) (by simp only [execOp, ho, e1]; go_simp) (hK.out _ _ (hF.now hF.1 (rfl)))
    · refine step_og (Op.move (.tmp 21)) (some 209) 14 false 207 [14] th47ff.ns (by kernel_rfl) (by kernel_rfl) rfl (by kernel_rfl) (fun o ho hd hw0 l xs W hF hl hn K hK => ?_)
      have eg : (putZ a th47ff.ns 0 xs).eval (.tmp 207) = .bool false := (eval_z 14 (hsz 207 (by decide))).trans (hF.get 14 hn.1)
      have hw := hw0 (putZ a th47ff.ns 0 xs) (by rw [putZ_size]; exact hsz 207 (by decide)) eg
      have e1 := eval_o (xs := xs) (ns := th47ff.ns) h21
      exact value_ (v := .bool false) hw hd (w1 := W) (by simp only [execOp, ho, e1]; go_simp) (hK.out _ _ (hF.now hF.1 (rfl)))
    · refine step_og (Op.binOp .eql 4 (.tmp 208) (.tmp 209) 4) (some 210) 14 false 207 [15, 16, 14] th47ff.ns (by kernel_rfl) (by kernel_rfl) rfl (by kernel_rfl) (fun o ho hd hw0 l xs W hF hl hn K hK => ?_)
      have eg : (putZ a th47ff.ns 0 xs).eval (.tmp 207) = .bool false := (eval_z 14 (hsz 207 (by decide))).trans (hF.get 14 hn.2.2.1)
      have hw := hw0 (putZ a th47ff.ns 0 xs) (by rw [putZ_size]; exact hsz 207 (by decide)) eg
      have e0 : (putZ a th47ff.ns 0 xs).eval (.tmp 208) = .bool false := (eval_z 15 (hsz 208 (by decide))).trans (hF.get 15 hn.1)
      have e1 : (putZ a th47ff.ns 0 xs).eval (.tmp 209) = .bool false := (eval_z 16 (hsz 209 (by decide))).trans (hF.get 16 hn.2.1)
      exact value_ (v := .bool true) hw hd (w1 := W) (by simp only [Act.eval, Array.getD_eq_getD_getElem?] at e0 e1; simp only [execOp, ho]; go_simp) (hK.out _ _ (hF.now hF.1 rfl))
    · refine step_og (Op.move (.tmp 210)) (some 211) 14 false 207 [17, 14, 14] th47ff.ns (by kernel_rfl) (by kernel_rfl) rfl (by kernel_rfl) (fun o ho hd hw0 l xs W hF hl hn K hK => ?_)
      have eg : (putZ a th47ff.ns 0 xs).eval (.tmp 207) = .bool false := (eval_z 14 (hsz 207 (by decide))).trans (hF.get 14 hn.2.1)
      have hw := hw0 (putZ a th47ff.ns 0 xs) (by rw [putZ_size]; exact hsz 207 (by decide)) eg
      have e1 : (putZ a th47ff.ns 0 xs).eval (.tmp 210) = xs 17 := eval_z 17 (hsz 210 (by decide))
      exact value_ (v := xs 17) hw hd (w1 := W) (by simp only [execOp, ho, e1]; go_simp) (hK.out _ _ (hF.now hF.1 (hF.get 17 hn.1)))
    · refine step_og (Op.move (.tmp 14)) (some 212) 18 true 211 [18] th47ff.ns (by kernel_rfl) (by kernel_rfl) rfl (by kernel_rfl) (fun o ho hd hw0 l xs W hF hl hn K hK => ?_)
      have eg : (putZ a th47ff.ns 0 xs).eval (.tmp 211) = .bool true := (eval_z 18 (hsz 211 (by decide))).trans (hF.get 18 hn.1)
      have hw := hw0 (putZ a th47ff.ns 0 xs) (by rw [putZ_size]; exact hsz 211 (by decide)) eg
      have e1 := eval_o (xs := xs) (ns := th47ff.ns) h14
      exact value_ (v := .slice AW nW cW) hw hd (w1 := W) (by simp only [execOp, ho, e1]; go_simp) (hK.out _ _ (hF.now hF.1 (rfl)))
    · refine step_og (Op.move (.tmp 15)) (some 213) 18 true 211 [18] th47ff.ns (by kernel_rfl) (by kernel_rfl) rfl (by kernel_rfl) (fun o ho hd hw0 l xs W hF hl hn K hK => ?_)
      have eg : (putZ a th47ff.ns 0 xs).eval (.tmp 211) = .bool true := (eval_z 18 (hsz 211 (by decide))).trans (hF.get 18 hn.1)
      have hw := hw0 (putZ a th47ff.ns 0 xs) (by rw [putZ_size]; exact hsz 211 (by decide)) eg
      have e1 := eval_o (xs := xs) (ns := th47ff.ns) h15
      exact value_ (v := .slice (some ad) n cA) hw hd (w1 := W) (by simp only [execOp, ho, e1]; go_simp) (hK.out _ _ (hF.now hF.1 (rfl)))
    · refine step_og (Op.move (.tmp 19)) (some 214) 18 true 211 [18] th47ff.ns (by kernel_rfl) (by kernel_rfl) rfl (by kernel_rfl) (fun o ho hd hw0 l xs W hF hl hn K hK => ?_)
      have eg : (putZ a th47ff.ns 0 xs).eval (.tmp 211) = .bool true := (eval_z 18 (hsz 211 (by decide))).trans (hF.get 18 hn.1)
      have hw := hw0 (putZ a th47ff.ns 0 xs) (by rw [putZ_size]; exact hsz 211 (by decide)) eg
      have e1 := eval_o (xs := xs) (ns := th47ff.ns) h19
      exact value_ (v := .int .i64 (j : Nat)) hw hd (w1 := W) (by simp only [execOp, ho, e1]; go_simp) (hK.out _ _ (hF.now hF.1 (rfl)))
    · refine step_og (Op.indexAddr 26 (.tmp 213) (.tmp 214)) (some 215) 18 true 211 [20, 21, 18] th47ff.ns (by kernel_rfl) (by kernel_rfl) rfl (by kernel_rfl) (fun o ho hd hw0 l xs W hF hl hn K hK => ?_)
      have eg : (putZ a th47ff.ns 0 xs).eval (.tmp 211) = .bool true := (eval_z 18 (hsz 211 (by decide))).trans (hF.get 18 hn.2.2.1)
      have hw := hw0 (putZ a th47ff.ns 0 xs) (by rw [putZ_size]; exact hsz 211 (by decide)) eg
      have e0 : (putZ a th47ff.ns 0 xs).eval (.tmp 213) = .slice (some ad) n cA := (eval_z 20 (hsz 213 (by decide))).trans (hF.get 20 hn.1)
      have e1 : (putZ a th47ff.ns 0 xs).eval (.tmp 214) = .int .i64 (j : Nat) := (eval_z 21 (hsz 214 (by decide))).trans (hF.get 21 hn.2.1)
      exact value_ (v := .pointer (some (ad.add (j * 3)))) hw hd (w1 := W) (by simp only [Act.eval, Array.getD_eq_getD_getElem?] at e0 e1; simp only [execOp, ho]; go_simp) (hK.out _ _ (hF.now hF.1 rfl))
    · refine step_og (Op.load 30 (.tmp 215)) (some 216) 18 true 211 [22, 18] th47ff.ns (by kernel_rfl) (by kernel_rfl) rfl (by kernel_rfl) (fun o ho hd hw0 l xs W hF hl hn K hK => ?_)
      have eg : (putZ a th47ff.ns 0 xs).eval (.tmp 211) = .bool true := (eval_z 18 (hsz 211 (by decide))).trans (hF.get 18 hn.2.1)
      have hw := hw0 (putZ a th47ff.ns 0 xs) (by rw [putZ_size]; exact hsz 211 (by decide)) eg
      have e0 : (putZ a th47ff.ns 0 xs).eval (.tmp 215) = .pointer (some (ad.add (j * 3))) := (eval_z 22 (hsz 215 (by decide))).trans (hF.get 22 hn.1)
      obtain ⟨q0, q1, q2⟩ := hcel W hF.1
      exact value_ (v := .agg #[.string y.f0, .string y.f1, .string y.f2]) hw hd (w1 := W) (by simp only [Act.eval, Array.getD_eq_getD_getElem?] at e0; simp only [execOp, ho]; go_simp) (hK.out _ _ (hF.now hF.1 rfl))
    · refine step_og (Op.build 53 #[(0, .tmp 216)]) (some 217) 18 true 211 [23, 18] th47ff.ns (by kernel_rfl) (by kernel_rfl) rfl (by kernel_rfl) (fun o ho hd hw0 l xs W hF hl hn K hK => ?_)
      have eg : (putZ a th47ff.ns 0 xs).eval (.tmp 211) = .bool true := (eval_z 18 (hsz 211 (by decide))).trans (hF.get 18 hn.2.1)
      have hw := hw0 (putZ a th47ff.ns 0 xs) (by rw [putZ_size]; exact hsz 211 (by decide)) eg
      have e0 : (putZ a th47ff.ns 0 xs).eval (.tmp 216) = .agg #[.string y.f0, .string y.f1, .string y.f2] := (eval_z 23 (hsz 216 (by decide))).trans (hF.get 23 hn.1)
      exact value_ (v := .agg #[.string y.f0, .string y.f1, .string y.f2, .bool false]) hw hd (w1 := W) (by simp only [Act.eval, Array.getD_eq_getD_getElem?] at e0; simp only [execOp, ho]; go_simp) (hK.out _ _ (hF.now hF.1 rfl))
    · refine step_og (Op.call { callee := .value (.func 40), args := #[.tmp 212, .tmp 217], argTypes := #[47, 53] }) (some 218) 18 true 211 [19, 24, 18, 18] th47ff.ns (by kernel_rfl) (by kernel_rfl) rfl (by kernel_rfl) (fun o ho hd hw0 l xs W hF hl hn K hK => ?_)
      have eg : (putZ a th47ff.ns 0 xs).eval (.tmp 211) = .bool true := (eval_z 18 (hsz 211 (by decide))).trans (hF.get 18 hn.2.2.1)
      have hw := hw0 (putZ a th47ff.ns 0 xs) (by rw [putZ_size]; exact hsz 211 (by decide)) eg
      have e0 : (putZ a th47ff.ns 0 xs).eval (.tmp 212) = .slice AW nW cW := (eval_z 19 (hsz 212 (by decide))).trans (hF.get 19 hn.1)
      have e1 : (putZ a th47ff.ns 0 xs).eval (.tmp 217) = .agg #[.string y.f0, .string y.f1, .string y.f2, .bool false] := (eval_z 24 (hsz 217 (by decide))).trans (hF.get 24 hn.2.1)
      refine goes_ Try.func40 (by kernel_rfl) rfl #[.slice AW nW cW, .agg #[.string y.f0, .string y.f1, .string y.f2, .bool false]] hw hd ho (by simp only [List.map_toArray, List.map_cons, List.map_nil, e0, e1]) ?_
      refine (hTf W hF.1).mono ?_
      rintro e W' ⟨rfl, hb⟩
      exact ⟨_, rfl, hK.out _ _ (hF.up (hF.1.trans (hb.mono hF.1.size)) (fun j v _ _ h => th47ff.mono j h hb) (rfl))⟩
    · refine step_og (Op.move (.tmp 14)) (some 219) 18 true 211 [18] th47ff.ns (by kernel_rfl) (by kernel_rfl) rfl (by kernel_rfl) (fun o ho hd hw0 l xs W hF hl hn K hK => ?_)
      have eg : (putZ a th47ff.ns 0 xs).eval (.tmp 211) = .bool true := (eval_z 18 (hsz 211 (by decide))).trans (hF.get 18 hn.1)
      have hw := hw0 (putZ a th47ff.ns 0 xs) (by rw [putZ_size]; exact hsz 211 (by decide)) eg
      have e1 := eval_o (xs := xs) (ns := th47ff.ns) h14
      exact value_ (v := .slice AW nW cW) hw hd (w1 := W) (by simp only [execOp, ho, e1]; go_simp) (hK.out _ _ (hF.now hF.1 (rfl)))
    · refine step_og (Op.move (.tmp 15)) (some 220) 18 true 211 [18] th47ff.ns (by kernel_rfl) (by kernel_rfl) rfl (by kernel_rfl) (fun o ho hd hw0 l xs W hF hl hn K hK => ?_)
      have eg : (putZ a th47ff.ns 0 xs).eval (.tmp 211) = .bool true := (eval_z 18 (hsz 211 (by decide))).trans (hF.get 18 hn.1)
      have hw := hw0 (putZ a th47ff.ns 0 xs) (by rw [putZ_size]; exact hsz 211 (by decide)) eg
      have e1 := eval_o (xs := xs) (ns := th47ff.ns) h15
      exact value_ (v := .slice (some ad) n cA) hw hd (w1 := W) (by simp only [execOp, ho, e1]; go_simp) (hK.out _ _ (hF.now hF.1 (rfl)))
    · refine step_og (Op.move (.tmp 19)) (some 221) 18 true 211 [18] th47ff.ns (by kernel_rfl) (by kernel_rfl) rfl (by kernel_rfl) (fun o ho hd hw0 l xs W hF hl hn K hK => ?_)
      have eg : (putZ a th47ff.ns 0 xs).eval (.tmp 211) = .bool true := (eval_z 18 (hsz 211 (by decide))).trans (hF.get 18 hn.1)
      have hw := hw0 (putZ a th47ff.ns 0 xs) (by rw [putZ_size]; exact hsz 211 (by decide)) eg
      have e1 := eval_o (xs := xs) (ns := th47ff.ns) h19
      exact value_ (v := .int .i64 (j : Nat)) hw hd (w1 := W) (by simp only [execOp, ho, e1]; go_simp) (hK.out _ _ (hF.now hF.1 (rfl)))
    · refine step_og (Op.indexAddr 26 (.tmp 220) (.tmp 221)) (some 222) 18 true 211 [27, 28, 18] th47ff.ns (by kernel_rfl) (by kernel_rfl) rfl (by kernel_rfl) (fun o ho hd hw0 l xs W hF hl hn K hK => ?_)
      have eg : (putZ a th47ff.ns 0 xs).eval (.tmp 211) = .bool true := (eval_z 18 (hsz 211 (by decide))).trans (hF.get 18 hn.2.2.1)
      have hw := hw0 (putZ a th47ff.ns 0 xs) (by rw [putZ_size]; exact hsz 211 (by decide)) eg
      have e0 : (putZ a th47ff.ns 0 xs).eval (.tmp 220) = .slice (some ad) n cA := (eval_z 27 (hsz 220 (by decide))).trans (hF.get 27 hn.1)
      have e1 : (putZ a th47ff.ns 0 xs).eval (.tmp 221) = .int .i64 (j : Nat) := (eval_z 28 (hsz 221 (by decide))).trans (hF.get 28 hn.2.1)
      exact value_ (v := .pointer (some (ad.add (j * 3)))) hw hd (w1 := W) (by simp only [Act.eval, Array.getD_eq_getD_getElem?] at e0 e1; simp only [execOp, ho]; go_simp) (hK.out _ _ (hF.now hF.1 rfl))
    · refine step_og (Op.load 30 (.tmp 222)) (some 223) 18 true 211 [29, 18] th47ff.ns (by kernel_rfl) (by kernel_rfl) rfl (by kernel_rfl) (fun o ho hd hw0 l xs W hF hl hn K hK => ?_)
      have eg : (putZ a th47ff.ns 0 xs).eval (.tmp 211) = .bool true := (eval_z 18 (hsz 211 (by decide))).trans (hF.get 18 hn.2.1)
      have hw := hw0 (putZ a th47ff.ns 0 xs) (by rw [putZ_size]; exact hsz 211 (by decide)) eg
      have e0 : (putZ a th47ff.ns 0 xs).eval (.tmp 222) = .pointer (some (ad.add (j * 3))) := (eval_z 29 (hsz 222 (by decide))).trans (hF.get 29 hn.1)
      obtain ⟨q0, q1, q2⟩ := hcel W hF.1
      exact value_ (v := .agg #[.string y.f0, .string y.f1, .string y.f2]) hw hd (w1 := W) (by simp only [Act.eval, Array.getD_eq_getD_getElem?] at e0; simp only [execOp, ho]; go_simp) (hK.out _ _ (hF.now hF.1 rfl))
    · refine step_og (Op.build 53 #[(0, .tmp 223), (1, .const (.bool true))]) (some 224) 18 true 211 [30, 18] th47ff.ns (by kernel_rfl) (by kernel_rfl) rfl (by kernel_rfl) (fun o ho hd hw0 l xs W hF hl hn K hK => ?_)
      have eg : (putZ a th47ff.ns 0 xs).eval (.tmp 211) = .bool true := (eval_z 18 (hsz 211 (by decide))).trans (hF.get 18 hn.2.1)
      have hw := hw0 (putZ a th47ff.ns 0 xs) (by rw [putZ_size]; exact hsz 211 (by decide)) eg
      have e0 : (putZ a th47ff.ns 0 xs).eval (.tmp 223) = .agg #[.string y.f0, .string y.f1, .string y.f2] := (eval_z 30 (hsz 223 (by decide))).trans (hF.get 30 hn.1)
      exact value_ (v := .agg #[.string y.f0, .string y.f1, .string y.f2, .bool true]) hw hd (w1 := W) (by simp only [Act.eval, Array.getD_eq_getD_getElem?] at e0; simp only [execOp, ho]; go_simp) (hK.out _ _ (hF.now hF.1 rfl))
    · refine step_og (Op.call { callee := .value (.func 40), args := #[.tmp 219, .tmp 224], argTypes := #[47, 53] }) (some 225) 18 true 211 [26, 31, 25, 18] th47ff.ns (by kernel_rfl) (by kernel_rfl) rfl (by kernel_rfl) (fun o ho hd hw0 l xs W hF hl hn K hK => ?_)
      have eg : (putZ a th47ff.ns 0 xs).eval (.tmp 211) = .bool true := (eval_z 18 (hsz 211 (by decide))).trans (hF.get 18 hn.2.2.2.1)
      have hw := hw0 (putZ a th47ff.ns 0 xs) (by rw [putZ_size]; exact hsz 211 (by decide)) eg
      have e0 : (putZ a th47ff.ns 0 xs).eval (.tmp 219) = .slice AW nW cW := (eval_z 26 (hsz 219 (by decide))).trans (hF.get 26 hn.1)
      have e1 : (putZ a th47ff.ns 0 xs).eval (.tmp 224) = .agg #[.string y.f0, .string y.f1, .string y.f2, .bool true] := (eval_z 31 (hsz 224 (by decide))).trans (hF.get 31 hn.2.1)
      refine goes_ Try.func40 (by kernel_rfl) rfl #[.slice AW nW cW, .agg #[.string y.f0, .string y.f1, .string y.f2, .bool true]] hw hd ho (by simp only [List.map_toArray, List.map_cons, List.map_nil, e0, e1]) ?_
      refine (hTt W hF.1).mono ?_
      rintro e W' ⟨rfl, hb⟩
      exact ⟨_, rfl, hK.out _ _ (hF.up (hF.1.trans (hb.mono hF.1.size)) (fun j v _ _ h => th47ff.mono j h hb) (rfl))⟩
    · refine step_og (Op.binOp .add 3 (.tmp 218) (.tmp 225) 3) (some 226) 18 true 211 [25, 32, 18] th47ff.ns (by kernel_rfl) (by kernel_rfl) rfl (by kernel_rfl) (fun o ho hd hw0 l xs W hF hl hn K hK => ?_)
      have eg : (putZ a th47ff.ns 0 xs).eval (.tmp 211) = .bool true := (eval_z 18 (hsz 211 (by decide))).trans (hF.get 18 hn.2.2.1)
      have hw := hw0 (putZ a th47ff.ns 0 xs) (by rw [putZ_size]; exact hsz 211 (by decide)) eg
      have e0 : (putZ a th47ff.ns 0 xs).eval (.tmp 218) = .int .i64 0 := (eval_z 25 (hsz 218 (by decide))).trans (hF.get 25 hn.1)
      have e1 : (putZ a th47ff.ns 0 xs).eval (.tmp 225) = .int .i64 0 := (eval_z 32 (hsz 225 (by decide))).trans (hF.get 32 hn.2.1)
      exact value_ (v := .int .i64 0) hw hd (w1 := W) (by simp only [Act.eval, Array.getD_eq_getD_getElem?] at e0 e1; simp only [execOp, ho]; first | (go_simp; done) | (go_simp; rfl) | (go_simp; simp [wrap64]; done)) (hK.out _ _ (hF.now hF.1 rfl))
    · refine step_og (Op.binOp .neq 3 (.tmp 226) (.const (.int .i64 0)) 3) (some 227) 18 true 211 [33, 18] th47ff.ns (by kernel_rfl) (by kernel_rfl) rfl (by kernel_rfl) (fun o ho hd hw0 l xs W hF hl hn K hK => ?_)
      have eg : (putZ a th47ff.ns 0 xs).eval (.tmp 211) = .bool true := (eval_z 18 (hsz 211 (by decide))).trans (hF.get 18 hn.2.1)
      have hw := hw0 (putZ a th47ff.ns 0 xs) (by rw [putZ_size]; exact hsz 211 (by decide)) eg
      have e0 : (putZ a th47ff.ns 0 xs).eval (.tmp 226) = .int .i64 0 := (eval_z 33 (hsz 226 (by decide))).trans (hF.get 33 hn.1)
      exact value_ (v := .bool false) hw hd (w1 := W) (by simp only [Act.eval, Array.getD_eq_getD_getElem?] at e0; simp only [execOp, ho]; go_simp) (hK.out _ _ (hF.now hF.1 rfl))
    · refine step_og (Op.pick (.tmp 211) (.tmp 227) (.const (.bool false))) (some 228) 14 false 207 [18, 34, 14] th47ff.ns (by kernel_rfl) (by kernel_rfl) rfl (by kernel_rfl) (fun o ho hd hw0 l xs W hF hl hn K hK => ?_)
      have eg : (putZ a th47ff.ns 0 xs).eval (.tmp 207) = .bool false := (eval_z 14 (hsz 207 (by decide))).trans (hF.get 14 hn.2.2.1)
      have hw := hw0 (putZ a th47ff.ns 0 xs) (by rw [putZ_size]; exact hsz 207 (by decide)) eg
      have e0 : (putZ a th47ff.ns 0 xs).eval (.tmp 211) = .bool true := (eval_z 18 (hsz 211 (by decide))).trans (hF.get 18 hn.1)
      have e1 : (putZ a th47ff.ns 0 xs).eval (.tmp 227) = .bool false := (eval_z 34 (hsz 227 (by decide))).trans (hF.get 34 hn.2.1)
      exact value_ (v := .bool false) hw hd (w1 := W) (by simp only [Act.eval, Array.getD_eq_getD_getElem?] at e0 e1; simp only [execOp, ho]; go_simp) (hK.out _ _ (hF.now hF.1 rfl))
    · refine step_op (Op.pick (.tmp 207) (.const (.bool true)) (.tmp 228)) (some 229) [14, 35] th47ff.ns (by kernel_rfl) rfl (by kernel_rfl) (fun o ho hd hw l xs W hF hl hn K hK => ?_)
      have e0 : (putZ a th47ff.ns 0 xs).eval (.tmp 207) = .bool false := (eval_z 14 (hsz 207 (by decide))).trans (hF.get 14 hn.1)
      have e1 : (putZ a th47ff.ns 0 xs).eval (.tmp 228) = .bool false := (eval_z 35 (hsz 228 (by decide))).trans (hF.get 35 hn.2.1)
      exact value_ (v := .bool false) (hw _) hd (w1 := W) (by simp only [Act.eval, Array.getD_eq_getD_getElem?] at e0 e1; simp only [execOp, ho]; go_simp) (hK.out _ _ (hF.now hF.1 rfl))
end Go.Proofs.Yteefneemmdfncaa.M
