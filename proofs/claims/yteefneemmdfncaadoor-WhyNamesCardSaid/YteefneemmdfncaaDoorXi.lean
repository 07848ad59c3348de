import Derived.Test.YteefneemmdfncaaDoorXh
import Derived.Test.YteefneemmdfncaaDoorDq
import Derived.Test.YteefneemmdfncaaDoorWLi
/- alive of why's statements, walked: reasons are given, and hold. Condition: none. -/
namespace Go.Proofs.YteefneemmdfncaaDoor.M
open Go.RowKit Go.Proofs.YteefneemmdfncaaDoorW.Raw Go.Proofs.YteefneemmdfncaaDoorW.PrintWords Go.Proofs.YteefneemmdfncaaDoorW.PrintLast Go.Proofs.YteefneemmdfncaaDoorW.PrintAll Go.Proofs.YteefneemmdfncaaDoor.F
set_option linter.unusedVariables false
set_option linter.unusedSimpArgs false
theorem SsR.stay {B : Nat} {l : List ByteArray} {v : Value} {W W' : World} {g t : Nat} {cs : Array Value} (h : SsR B l v W) (hb : W.heap[g]? = some (.cells cs t (0, 0))) (ht : t ≠ 9) (ho : ∀ i, i ≠ g → W'.heap[i]? = W.heap[i]?) : SsR B l v W' :=
  R_ts (T := [9]) h (TS.but hb (by intro q hq; rw [List.mem_singleton] at hq; subst hq; exact ht.symm) ho) (fun q hq => (show q ∈ [9] from hq))
theorem wsmall_v (w : World) : Calls Tryd.prog 44 #[] w fun e W => ∃ v, e = .returned v ∧ PolV smallW v W ∧ Below w.heap.size w W :=
  (wsmall_k w).mono fun e W ⟨C, h1, h2, h3⟩ => ⟨_, h1, ⟨C, rfl, h2⟩, h3⟩
theorem expl_v (p : Pol) (C : Array Value) (t : Tri) (B : Nat) (w : World) (hk : k28.K w p C.toList) (hz : Sz p) (hB : B ≤ w.heap.size) :
    Calls Tryd.prog 21 #[.agg C, .agg #[.string t.f0, .string t.f1, .string t.f2]] w fun e W => ∃ v, e = .returned v ∧ RsV B (explL p t) v W ∧ Below w.heap.size w W :=
  (explain_calls p C t w hk hz).mono fun e W ⟨v, h1, h2, h3⟩ => ⟨v, h1, h2.low hB, h3⟩
theorem holds_b (p : Pol) (C : Array Value) (t : Tri) (r : Rsn) (cr : Array Value) (w : World) (hk : k28.K w p C.toList) (hr : k33.K w r cr.toList) (hz : Sz p) (hlw : r.f2.length ≤ 1048576 ∧ r.f3.length ≤ 1048576) {b : Bool} (hb : holdsL p t r = b) :
    Calls Tryd.prog 22 #[.agg C, .agg #[.string t.f0, .string t.f1, .string t.f2], .agg cr] w fun e w' => e = .returned (.bool b) ∧ Below w.heap.size w w' := by
  rw [← hb]
  exact holds_calls p C t r cr w hk hr hz hlw
theorem who_one (C : Array Value) (w : World) (hk : k28.K w smallW C.toList) :
    Calls Tryd.prog 24 #[.agg C, .string ⟨#[100, 111, 111, 114]⟩, .string ⟨#[111, 112, 101, 110]⟩] w fun e w' => ∃ A c, e = .returned (.slice A 1 c) ∧ Below w.heap.size w w' :=
  (who_calls smallW C doorW openW w hk smallW_sz).mono fun e w' ⟨v, h1, h2, h3⟩ => by
    rw [wh_one] at h2
    obtain ⟨A, c, rfl, _⟩ := h2.open
    exact ⟨A, c, h1, h3⟩
abbrev al3.ns : List (Option Tmp) := [some 8, some 9, some 10, some 3, none]
def al3.T : Bool × List (List Nat × List Nat) := (true, [([], []), ([], []), ([0, 1, 0], [0, 1]), ([], []), ([3, 2, 2, 0, 1, 2, 3], [2, 3])])
theorem al3.tab : rtab .any (opsOf Tryd.f19 3) = al3.T := by kernel_rfl
def al3.V (w0 : World) : Nat → Value → World → Prop
  | 0 => PolV smallW
  | 1 => IsV (.agg #[.string openT.f0, .string openT.f1, .string openT.f2])
  | 2 => RsV w0.heap.size (explL smallW openT)
  | 3 => NewV w0.heap.size #[.int .i8 0, .int .i64 0, .slice none 0 0, .slice none 0 0] 33
  | 4 => fun _ _ => True
  | _ => fun _ _ => True
theorem al3.mono {w0 : World} : ∀ (j_ : Nat) {v : Value} {W W' : World}, al3.V w0 j_ v W → Below W.heap.size W W' → al3.V w0 j_ v W'
  | 0, _, _, _, h, hb => PolV.mono h hb
  | 1, _, _, _, h, hb => h
  | 2, _, _, _, h, hb => RsV.mono h hb
  | 3, _, _, _, h, hb => NewV.mono h hb
  | 4, _, _, _, h, hb => trivial
  | n + 5, _, _, _, _, _ => trivial
set_option maxRecDepth 100000 in
set_option maxHeartbeats 2000000 in
theorem al3.region {Q : Exit → Act → World → Prop} {id : Nat} {a : Act} {w : World} {b1 : Nat}  (hm : Tryd.prog.follows .mixedOrders = true) (hs : a.tmps.size = 72) (h1 : a.eval (.tmp 1) = .pointer (some ⟨b1, 0, none⟩)) (hb1 : w.heap[b1]? = some (Obj.cells #[.string openT.f0, .string openT.f1, .string openT.f2] 30 (0, 0)))  
    (hdone : ∀ (xs : Nat → Value) (W : World), (fun xs W => ∃ g v6 v7, xs 3 = .pointer (some ⟨g, 0, none⟩) ∧ w.heap.size ≤ g ∧ W.heap[g]? = some (Obj.cells #[.int .i8 (explL smallW openT).f0, .int .i64 (explL smallW openT).f1, v6, v7] 33 (0, 0)) ∧ SsR w.heap.size (explL smallW openT).f2 v6 W ∧ SsR w.heap.size (explL smallW openT).f3 v7 W ∧ Below w.heap.size w W) xs W → Q .normal (putZ a al3.ns 0 xs) W) :
    (Code.region id (opsOf Tryd.f19 3) true).wp Tryd.prog Q a w := by
  refine region_lastP (T := al3.T) 5 4 (by decide) (fun _ W => Below w.heap.size w W) (al3.V w) (fun xs W => ∃ g v6 v7, xs 3 = .pointer (some ⟨g, 0, none⟩) ∧ w.heap.size ≤ g ∧ W.heap[g]? = some (Obj.cells #[.int .i8 (explL smallW openT).f0, .int .i64 (explL smallW openT).f1, v6, v7] 33 (0, 0)) ∧ SsR w.heap.size (explL smallW openT).f2 v6 W ∧ SsR w.heap.size (explL smallW openT).f3 v7 W ∧ Below w.heap.size w W) hm (by kernel_rfl) al3.tab (by kernel_rfl) (by kernel_rfl) (below_drew (Below.refl _ _)) (fun _ h => h) ?hsteps ?hd
  case hd => exact fun xs W h => hdone xs W h
  case hsteps =>
    have hsz : ∀ t, t < 72 → t < a.tmps.size := fun t ht => by rw [hs]; exact ht
    refine ⟨?_, ?_, ?_, ?_, ?_, trivial⟩
    · refine stepAt_last (by decide) (by decide) ?_
      refine step_op (Op.call { callee := .value (.func 44), args := #[], argTypes := #[] }) (some 8) [] al3.ns (by kernel_rfl) rfl (by kernel_rfl) (fun o ho hd hw l xs W hF hl hn K hK => ?_)
      refine goes_ Tryd.func44 (by kernel_rfl) rfl #[] (hw _) hd ho (by simp only [List.map_toArray, List.map_cons, List.map_nil, ]) ?_
      refine (wsmall_v W).mono ?_
      rintro e W' ⟨v, rfl, hv, hb⟩
      exact ⟨_, rfl, hK.out _ _ (hF.up (hF.1.trans (hb.mono hF.1.size)) (fun j v _ _ h => al3.mono j h hb) (hv))⟩
    · refine stepAt_last (by decide) (by decide) ?_
      refine step_op (Op.load 30 (.tmp 1)) (some 9) [] al3.ns (by kernel_rfl) rfl (by kernel_rfl) (fun o ho hd hw l xs W hF hl hn K hK => ?_)
      have e1 := eval_o (xs := xs) (ns := al3.ns) h1
      exact load_c (hw _) hd ho b1 e1 (blk_below hb1 hF.1) Tryd.underlying30 rfl (by kernel_rfl) (hK.out _ _ (hF.now hF.1 (rfl)))
    · refine stepAt_last (by decide) (by decide) ?_
      refine step_op (Op.call { callee := .value (.func 21), args := #[.tmp 8, .tmp 9], argTypes := #[28, 30] }) (some 10) [0, 1, 0] al3.ns (by kernel_rfl) rfl (by kernel_rfl) (fun o ho hd hw l xs W hF hl hn K hK => ?_)
      obtain ⟨C_e0, e_e0, k_e0⟩ := hF.get 0 hn.1
      have e0 : (putZ a al3.ns 0 xs).eval (.tmp 8) = .agg C_e0 := (eval_z 0 (hsz 8 (by decide))).trans e_e0
      have e1 : (putZ a al3.ns 0 xs).eval (.tmp 9) = .agg #[.string openT.f0, .string openT.f1, .string openT.f2] := (eval_z 1 (hsz 9 (by decide))).trans (hF.get 1 hn.2.1)
      refine goes_ Tryd.func21 (by kernel_rfl) rfl #[.agg C_e0, .agg #[.string openT.f0, .string openT.f1, .string openT.f2]] (hw _) hd ho (by simp only [List.map_toArray, List.map_cons, List.map_nil, e0, e1]) ?_
      refine (expl_v smallW C_e0 openT w.heap.size W k_e0 smallW_sz hF.1.size).mono ?_
      rintro e W' ⟨v, rfl, hv, hb⟩
      exact ⟨_, rfl, hK.out _ _ (hF.up (hF.1.trans (hb.mono hF.1.size)) (fun j v _ _ h => al3.mono j h hb) (hv))⟩
    · refine stepAt_last (by decide) (by decide) ?_
      refine step_op (Op.alloc 33) (some 3) [] al3.ns (by kernel_rfl) rfl (by kernel_rfl) (fun o ho hd hw l xs W hF hl hn K hK => ?_)
      have hle := hF.1.size
      rw [show (some 3 : Option Tmp) = o.dst from hd.symm] at hK ⊢
      refine box_step (hw _) hd (cs := #[.int .i8 0, .int .i64 0, .slice none 0 0, .slice none 0 0]) (t := 33) (by simp only [execOp, ho]; go_simp) (fun g hg W' hbox hb => hK.out _ _ ?_)
      exact hF.up (hF.1.trans (hb.mono hle)) (fun j v _ _ h => al3.mono j h hb) ⟨g, rfl, by rw [hg]; exact hle, hbox⟩
    · refine step_op (Op.store 33 (.tmp 3) (.tmp 10)) (none) [3, 2, 2, 0, 1, 2, 3] al3.ns (by kernel_rfl) rfl (by kernel_rfl) (fun o ho hd hw l xs W hF0 hl hn K hK => ?_)
      have hF := hF0.1 hl
      obtain ⟨g_, e_p, hle_, hblk_⟩ := hF.get 3 hn.1
      obtain ⟨v6, v7, e_q, h6_, h7_⟩ := hF.get 2 hn.2.1
      have e1 : (putZ a al3.ns 0 xs).eval (.tmp 3) = .pointer (some ⟨g_, 0, none⟩) := (eval_z 3 (hsz 3 (by decide))).trans e_p
      have e2 : (putZ a al3.ns 0 xs).eval (.tmp 10) = .agg #[.int .i8 (explL smallW openT).f0, .int .i64 (explL smallW openT).f1, v6, v7] := (eval_z 2 (hsz 10 (by decide))).trans e_q
      have hK2 : ∀ v w1, LF _ _ _ _ _ (upd l 4 true) (upd xs 4 v) w1 → K (putZ a al3.ns 0 xs) w1 := fun v w1 h => by
        have h2 := hK.out v w1 h
        rw [put_none] at h2
        exact h2
      clear hK
      rw [show (none : Option Tmp) = o.dst from hd.symm]
      refine bstore_step (hw _) ho hd g_ _ #[.int .i8 (explL smallW openT).f0, .int .i64 (explL smallW openT).f1, v6, v7] (.agg #[.int .i8 (explL smallW openT).f0, .int .i64 (explL smallW openT).f1, v6, v7]) e1 e2 rfl hblk_ (by kernel_rfl) rfl (by_one h6_ h7_) (fun w1 hw1 ho2 hsw hbel => ?_)
      have hall : ∀ j, j < 5 → j ≠ 4 → l j = true := by
        intro j hj hne
        have hc : j = 0 ∨ j = 1 ∨ j = 2 ∨ j = 3 := by omega
        rcases hc with rfl | rfl | rfl | rfl
        · exact hn.2.2.2.1
        · exact hn.2.2.2.2.1
        · exact hn.2.1
        · exact hn.1
      exact hK2 undef w1 (LF.store hall ⟨g_, v6, v7, (upd_other _ _ (by decide)).trans e_p, hle_, hw1, SsR.stay h6_ hblk_ (by decide) ho2, SsR.stay h7_ hblk_ (by decide) ho2, hF.1.trans ((hbel _ hle_).mono (Nat.le_refl _))⟩)
abbrev al4.ns : List (Option Tmp) := [some 11, some 12, some 13, some 4, none]
def al4.T : Bool × List (List Nat × List Nat) := (true, [([], []), ([], []), ([0, 1, 0], [0, 1]), ([], []), ([3, 2, 2, 0, 1, 2, 3], [2, 3])])
theorem al4.tab : rtab .any (opsOf Tryd.f19 4) = al4.T := by kernel_rfl
def al4.V (w0 : World) : Nat → Value → World → Prop
  | 0 => PolV smallW
  | 1 => IsV (.agg #[.string shutT.f0, .string shutT.f1, .string shutT.f2])
  | 2 => RsV w0.heap.size (explL smallW shutT)
  | 3 => NewV w0.heap.size #[.int .i8 0, .int .i64 0, .slice none 0 0, .slice none 0 0] 33
  | 4 => fun _ _ => True
  | _ => fun _ _ => True
theorem al4.mono {w0 : World} : ∀ (j_ : Nat) {v : Value} {W W' : World}, al4.V w0 j_ v W → Below W.heap.size W W' → al4.V w0 j_ v W'
  | 0, _, _, _, h, hb => PolV.mono h hb
  | 1, _, _, _, h, hb => h
  | 2, _, _, _, h, hb => RsV.mono h hb
  | 3, _, _, _, h, hb => NewV.mono h hb
  | 4, _, _, _, h, hb => trivial
  | n + 5, _, _, _, _, _ => trivial
set_option maxRecDepth 100000 in
set_option maxHeartbeats 2000000 in
theorem al4.region {Q : Exit → Act → World → Prop} {id : Nat} {a : Act} {w : World} {b2 : Nat}  (hm : Tryd.prog.follows .mixedOrders = true) (hs : a.tmps.size = 72) (h2 : a.eval (.tmp 2) = .pointer (some ⟨b2, 0, none⟩)) (hb2 : w.heap[b2]? = some (Obj.cells #[.string shutT.f0, .string shutT.f1, .string shutT.f2] 30 (0, 0)))  
    (hdone : ∀ (xs : Nat → Value) (W : World), (fun xs W => ∃ g v6 v7, xs 3 = .pointer (some ⟨g, 0, none⟩) ∧ w.heap.size ≤ g ∧ W.heap[g]? = some (Obj.cells #[.int .i8 (explL smallW shutT).f0, .int .i64 (explL smallW shutT).f1, v6, v7] 33 (0, 0)) ∧ SsR w.heap.size (explL smallW shutT).f2 v6 W ∧ SsR w.heap.size (explL smallW shutT).f3 v7 W ∧ Below w.heap.size w W) xs W → Q .normal (putZ a al4.ns 0 xs) W) :
    (Code.region id (opsOf Tryd.f19 4) true).wp Tryd.prog Q a w := by
  refine region_lastP (T := al4.T) 5 4 (by decide) (fun _ W => Below w.heap.size w W) (al4.V w) (fun xs W => ∃ g v6 v7, xs 3 = .pointer (some ⟨g, 0, none⟩) ∧ w.heap.size ≤ g ∧ W.heap[g]? = some (Obj.cells #[.int .i8 (explL smallW shutT).f0, .int .i64 (explL smallW shutT).f1, v6, v7] 33 (0, 0)) ∧ SsR w.heap.size (explL smallW shutT).f2 v6 W ∧ SsR w.heap.size (explL smallW shutT).f3 v7 W ∧ Below w.heap.size w W) hm (by kernel_rfl) al4.tab (by kernel_rfl) (by kernel_rfl) (below_drew (Below.refl _ _)) (fun _ h => h) ?hsteps ?hd
  case hd => exact fun xs W h => hdone xs W h
  case hsteps =>
    have hsz : ∀ t, t < 72 → t < a.tmps.size := fun t ht => by rw [hs]; exact ht
    refine ⟨?_, ?_, ?_, ?_, ?_, trivial⟩
    · refine stepAt_last (by decide) (by decide) ?_
      refine step_op (Op.call { callee := .value (.func 44), args := #[], argTypes := #[] }) (some 11) [] al4.ns (by kernel_rfl) rfl (by kernel_rfl) (fun o ho hd hw l xs W hF hl hn K hK => ?_)
      refine goes_ Tryd.func44 (by kernel_rfl) rfl #[] (hw _) hd ho (by simp only [List.map_toArray, List.map_cons, List.map_nil, ]) ?_
      refine (wsmall_v W).mono ?_
      rintro e W' ⟨v, rfl, hv, hb⟩
      exact ⟨_, rfl, hK.out _ _ (hF.up (hF.1.trans (hb.mono hF.1.size)) (fun j v _ _ h => al4.mono j h hb) (hv))⟩
    · refine stepAt_last (by decide) (by decide) ?_
      refine step_op (Op.load 30 (.tmp 2)) (some 12) [] al4.ns (by kernel_rfl) rfl (by kernel_rfl) (fun o ho hd hw l xs W hF hl hn K hK => ?_)
      have e1 := eval_o (xs := xs) (ns := al4.ns) h2
      exact load_c (hw _) hd ho b2 e1 (blk_below hb2 hF.1) Tryd.underlying30 rfl (by kernel_rfl) (hK.out _ _ (hF.now hF.1 (rfl)))
    · refine stepAt_last (by decide) (by decide) ?_
      refine step_op (Op.call { callee := .value (.func 21), args := #[.tmp 11, .tmp 12], argTypes := #[28, 30] }) (some 13) [0, 1, 0] al4.ns (by kernel_rfl) rfl (by kernel_rfl) (fun o ho hd hw l xs W hF hl hn K hK => ?_)
      obtain ⟨C_e0, e_e0, k_e0⟩ := hF.get 0 hn.1
      have e0 : (putZ a al4.ns 0 xs).eval (.tmp 11) = .agg C_e0 := (eval_z 0 (hsz 11 (by decide))).trans e_e0
      have e1 : (putZ a al4.ns 0 xs).eval (.tmp 12) = .agg #[.string shutT.f0, .string shutT.f1, .string shutT.f2] := (eval_z 1 (hsz 12 (by decide))).trans (hF.get 1 hn.2.1)
      refine goes_ Tryd.func21 (by kernel_rfl) rfl #[.agg C_e0, .agg #[.string shutT.f0, .string shutT.f1, .string shutT.f2]] (hw _) hd ho (by simp only [List.map_toArray, List.map_cons, List.map_nil, e0, e1]) ?_
      refine (expl_v smallW C_e0 shutT w.heap.size W k_e0 smallW_sz hF.1.size).mono ?_
      rintro e W' ⟨v, rfl, hv, hb⟩
      exact ⟨_, rfl, hK.out _ _ (hF.up (hF.1.trans (hb.mono hF.1.size)) (fun j v _ _ h => al4.mono j h hb) (hv))⟩
    · refine stepAt_last (by decide) (by decide) ?_
      refine step_op (Op.alloc 33) (some 4) [] al4.ns (by kernel_rfl) rfl (by kernel_rfl) (fun o ho hd hw l xs W hF hl hn K hK => ?_)
      have hle := hF.1.size
      rw [show (some 4 : Option Tmp) = o.dst from hd.symm] at hK ⊢
      refine box_step (hw _) hd (cs := #[.int .i8 0, .int .i64 0, .slice none 0 0, .slice none 0 0]) (t := 33) (by simp only [execOp, ho]; go_simp) (fun g hg W' hbox hb => hK.out _ _ ?_)
      exact hF.up (hF.1.trans (hb.mono hle)) (fun j v _ _ h => al4.mono j h hb) ⟨g, rfl, by rw [hg]; exact hle, hbox⟩
    · refine step_op (Op.store 33 (.tmp 4) (.tmp 13)) (none) [3, 2, 2, 0, 1, 2, 3] al4.ns (by kernel_rfl) rfl (by kernel_rfl) (fun o ho hd hw l xs W hF0 hl hn K hK => ?_)
      have hF := hF0.1 hl
      obtain ⟨g_, e_p, hle_, hblk_⟩ := hF.get 3 hn.1
      obtain ⟨v6, v7, e_q, h6_, h7_⟩ := hF.get 2 hn.2.1
      have e1 : (putZ a al4.ns 0 xs).eval (.tmp 4) = .pointer (some ⟨g_, 0, none⟩) := (eval_z 3 (hsz 4 (by decide))).trans e_p
      have e2 : (putZ a al4.ns 0 xs).eval (.tmp 13) = .agg #[.int .i8 (explL smallW shutT).f0, .int .i64 (explL smallW shutT).f1, v6, v7] := (eval_z 2 (hsz 13 (by decide))).trans e_q
      have hK2 : ∀ v w1, LF _ _ _ _ _ (upd l 4 true) (upd xs 4 v) w1 → K (putZ a al4.ns 0 xs) w1 := fun v w1 h => by
        have h2 := hK.out v w1 h
        rw [put_none] at h2
        exact h2
      clear hK
      rw [show (none : Option Tmp) = o.dst from hd.symm]
      refine bstore_step (hw _) ho hd g_ _ #[.int .i8 (explL smallW shutT).f0, .int .i64 (explL smallW shutT).f1, v6, v7] (.agg #[.int .i8 (explL smallW shutT).f0, .int .i64 (explL smallW shutT).f1, v6, v7]) e1 e2 rfl hblk_ (by kernel_rfl) rfl (by_one h6_ h7_) (fun w1 hw1 ho2 hsw hbel => ?_)
      have hall : ∀ j, j < 5 → j ≠ 4 → l j = true := by
        intro j hj hne
        have hc : j = 0 ∨ j = 1 ∨ j = 2 ∨ j = 3 := by omega
        rcases hc with rfl | rfl | rfl | rfl
        · exact hn.2.2.2.1
        · exact hn.2.2.2.2.1
        · exact hn.2.1
        · exact hn.1
      exact hK2 undef w1 (LF.store hall ⟨g_, v6, v7, (upd_other _ _ (by decide)).trans e_p, hle_, hw1, SsR.stay h6_ hblk_ (by decide) ho2, SsR.stay h7_ hblk_ (by decide) ho2, hF.1.trans ((hbel _ hle_).mono (Nat.le_refl _))⟩)
abbrev al6.ns : List (Option Tmp) := [some 34, some 35, some 36, some 37, some 38, some 39, some 40, some 41, some 42, some 43, some 44, some 45, some 46, some 47, some 48, some 49, some 50, some 51, some 52, some 53, some 54, some 55, some 56, some 57, some 58, some 59, some 60, some 61, some 62, some 63, some 64, some 65, some 66, some 67, some 68, some 69, some 70, some 71, some 0]
def al6.T : Bool × List (List Nat × List Nat) := (true, [([], []), ([0], [0]), ([1], [1]), ([2, 1], [1, 2]), ([3, 1], [1, 3]), ([1, 4], [1, 4]), ([5, 1], [5]), ([6], [6]), ([7, 6], [6, 7]), ([8, 6], [6, 8]), ([6, 9], [6, 9]), ([10, 6], [10]), ([11, 11], [11]), ([11], [11]), ([11], [11]), ([12, 13, 14, 12, 11], [11, 12, 13, 14]), ([11, 15], [11, 15]), ([16, 15], [16]), ([17, 17], [17]), ([17], [17]), ([17], [17]), ([18, 19, 20, 18, 17], [17, 18, 19, 20]), ([21, 17], [17, 21]), ([17, 22], [17, 22]), ([23, 21], [23]), ([24, 24], [24]), ([25, 25, 24], [24, 25]), ([26, 24], [24, 26]), ([27, 24], [24, 27]), ([24, 28], [24, 28]), ([29, 26], [29]), ([30, 30], [30]), ([30], [30]), ([30], [30]), ([31, 32, 33, 31, 30], [30, 31, 32, 33]), ([34, 30], [30, 34]), ([35, 30], [30, 35]), ([30, 36], [30, 36]), ([37, 34, 0, 1, 2, 3, 4, 5, 6, 7, 8, 9, 10, 11, 12, 13, 14, 15, 16, 17, 18, 19, 20, 21, 22, 23, 24, 25, 26, 27, 28, 29, 30, 31, 32, 33, 34, 35, 36, 37], [37])])
theorem al6.tab : rtab .any (opsOf Tryd.f19 6) = al6.T := by kernel_rfl
def al6.V (A6 A7 B6 B7 : Option Addr) (c6 c7 d6 d7 b1 b2 b3 b4 : Nat) : Nat → Value → World → Prop
  | 0 => IsV (.bool true)
  | 1 => IsV (.bool true)
  | 2 => IsV (.pointer (some ⟨b4, 0, none⟩))
  | 3 => IsV (.int .i8 2)
  | 4 => IsV (.bool true)
  | 5 => IsV (.bool true)
  | 6 => IsV (.bool true)
  | 7 => IsV (.pointer (some ⟨b4, 1, none⟩))
  | 8 => IsV (.int .i64 1)
  | 9 => IsV (.bool true)
  | 10 => IsV (.bool true)
  | 11 => IsV (.bool true)
  | 12 => PolV smallW
  | 13 => IsV (.agg #[.string openT.f0, .string openT.f1, .string openT.f2])
  | 14 => IsV (.agg #[.int .i8 4, .int .i64 1, .slice A6 2 c6, .slice A7 1 c7])
  | 15 => IsV (.bool true)
  | 16 => IsV (.bool true)
  | 17 => IsV (.bool true)
  | 18 => PolV smallW
  | 19 => IsV (.agg #[.string shutT.f0, .string shutT.f1, .string shutT.f2])
  | 20 => IsV (.agg #[.int .i8 4, .int .i64 1, .slice A6 2 c6, .slice A7 1 c7])
  | 21 => IsV (.bool false)
  | 22 => IsV (.bool true)
  | 23 => IsV (.bool true)
  | 24 => IsV (.bool true)
  | 25 => PolV smallW
  | 26 => SlV 1
  | 27 => IsV (.int .i64 1)
  | 28 => IsV (.bool true)
  | 29 => IsV (.bool true)
  | 30 => IsV (.bool true)
  | 31 => PolV smallW
  | 32 => IsV (.agg #[.string shutT.f0, .string shutT.f1, .string shutT.f2])
  | 33 => IsV (.agg #[.int .i8 2, .int .i64 1, .slice B6 0 d6, .slice B7 0 d7])
  | 34 => SlV 1
  | 35 => IsV (.int .i64 1)
  | 36 => IsV (.bool true)
  | 37 => IsV (.bool true)
  | 38 => IsV (.bool true)
  | _ => fun _ _ => True
theorem al6.mono {A6 A7 B6 B7 : Option Addr} {c6 c7 d6 d7 b1 b2 b3 b4 : Nat} : ∀ (j_ : Nat) {v : Value} {W W' : World}, al6.V A6 A7 B6 B7 c6 c7 d6 d7 b1 b2 b3 b4 j_ v W → Below W.heap.size W W' → al6.V A6 A7 B6 B7 c6 c7 d6 d7 b1 b2 b3 b4 j_ v W'
  | 0, _, _, _, h, hb => h
  | 1, _, _, _, h, hb => h
  | 2, _, _, _, h, hb => h
  | 3, _, _, _, h, hb => h
  | 4, _, _, _, h, hb => h
  | 5, _, _, _, h, hb => h
  | 6, _, _, _, h, hb => h
  | 7, _, _, _, h, hb => h
  | 8, _, _, _, h, hb => h
  | 9, _, _, _, h, hb => h
  | 10, _, _, _, h, hb => h
  | 11, _, _, _, h, hb => h
  | 12, _, _, _, h, hb => PolV.mono h hb
  | 13, _, _, _, h, hb => h
  | 14, _, _, _, h, hb => h
  | 15, _, _, _, h, hb => h
  | 16, _, _, _, h, hb => h
  | 17, _, _, _, h, hb => h
  | 18, _, _, _, h, hb => PolV.mono h hb
  | 19, _, _, _, h, hb => h
  | 20, _, _, _, h, hb => h
  | 21, _, _, _, h, hb => h
  | 22, _, _, _, h, hb => h
  | 23, _, _, _, h, hb => h
  | 24, _, _, _, h, hb => h
  | 25, _, _, _, h, hb => PolV.mono h hb
  | 26, _, _, _, h, hb => h
  | 27, _, _, _, h, hb => h
  | 28, _, _, _, h, hb => h
  | 29, _, _, _, h, hb => h
  | 30, _, _, _, h, hb => h
  | 31, _, _, _, h, hb => PolV.mono h hb
  | 32, _, _, _, h, hb => h
  | 33, _, _, _, h, hb => h
  | 34, _, _, _, h, hb => h
  | 35, _, _, _, h, hb => h
  | 36, _, _, _, h, hb => h
  | 37, _, _, _, h, hb => h
  | 38, _, _, _, h, hb => h
  | n + 39, _, _, _, _, _ => trivial
set_option maxRecDepth 100000 in
set_option maxHeartbeats 2000000 in
theorem al6.region {Q : Exit → Act → World → Prop} {id : Nat} {a : Act} {w : World} (A6 A7 B6 B7 : Option Addr) (c6 c7 d6 d7 b1 b2 b3 b4 : Nat) (hr3 : ∀ W, Below w.heap.size w W → k33.K W (⟨4, 1, [annW, clerkW], [doorW]⟩ : Rsn) #[.int .i8 4, .int .i64 1, .slice A6 2 c6, .slice A7 1 c7].toList) (hr4 : ∀ W, Below w.heap.size w W → k33.K W (⟨2, 1, [], []⟩ : Rsn) #[.int .i8 2, .int .i64 1, .slice B6 0 d6, .slice B7 0 d7].toList) (hm : Tryd.prog.follows .mixedOrders = true) (hs : a.tmps.size = 72) (h1 : a.eval (.tmp 1) = .pointer (some ⟨b1, 0, none⟩)) (hb1 : w.heap[b1]? = some (Obj.cells #[.string openT.f0, .string openT.f1, .string openT.f2] 30 (0, 0)))  (h2 : a.eval (.tmp 2) = .pointer (some ⟨b2, 0, none⟩)) (hb2 : w.heap[b2]? = some (Obj.cells #[.string shutT.f0, .string shutT.f1, .string shutT.f2] 30 (0, 0)))  (h3 : a.eval (.tmp 3) = .pointer (some ⟨b3, 0, none⟩)) (hb3 : w.heap[b3]? = some (Obj.cells #[.int .i8 4, .int .i64 1, .slice A6 2 c6, .slice A7 1 c7] 33 (0, 0)))  (h4 : a.eval (.tmp 4) = .pointer (some ⟨b4, 0, none⟩)) (hb4 : w.heap[b4]? = some (Obj.cells #[.int .i8 2, .int .i64 1, .slice B6 0 d6, .slice B7 0 d7] 33 (0, 0)))  (h5 : a.eval (.tmp 5) = .bool true)
    (hdone : ∀ (xs : Nat → Value) (W : World), Below w.heap.size w W → IsV (.bool true) (xs 38) W → Q .normal (putZ a al6.ns 0 xs) W) :
    (Code.region id (opsOf Tryd.f19 6) true).wp Tryd.prog Q a w := by
  refine region_pred (T := al6.T) 39 (fun _ W => Below w.heap.size w W) (al6.V A6 A7 B6 B7 c6 c7 d6 d7 b1 b2 b3 b4) hm (by kernel_rfl) al6.tab (by kernel_rfl) (by kernel_rfl) (below_drew (Below.refl _ _)) (fun _ h => h) ?hsteps ?hd
  case hd => exact fun xs W hI hV => hdone xs W hI (hV 38 (by decide))
  case hsteps =>
    have hsz : ∀ t, t < 72 → t < a.tmps.size := fun t ht => by rw [hs]; exact ht
    refine ⟨?_, ?_, ?_, ?_, ?_, ?_, ?_, ?_, ?_, ?_, ?_, ?_, ?_, ?_, ?_, ?_, ?_, ?_, ?_, ?_, ?_, ?_, ?_, ?_, ?_, ?_, ?_, ?_, ?_, ?_, ?_, ?_, ?_, ?_, ?_, ?_, ?_, ?_, ?_, trivial⟩
    · refine step_op (Op.move (.tmp 5)) (some 34) [] al6.ns (by kernel_rfl) rfl (by kernel_rfl) (fun o ho hd hw l xs W hF hl hn K hK => ?_)
      have e1 := eval_o (xs := xs) (ns := al6.ns) h5
      exact value_ (v := .bool true) (hw _) hd (w1 := W) (by simp only [execOp, ho, e1]; go_simp) (hK.out _ _ (hF.now hF.1 (rfl)))
    · refine step_op (Op.move (.tmp 34)) (some 35) [0] al6.ns (by kernel_rfl) rfl (by kernel_rfl) (fun o ho hd hw l xs W hF hl hn K hK => ?_)
      have e1 : (putZ a al6.ns 0 xs).eval (.tmp 34) = xs 0 := eval_z 0 (hsz 34 (by decide))
      exact value_ (v := xs 0) (hw _) hd (w1 := W) (by simp only [execOp, ho, e1]; go_simp) (hK.out _ _ (hF.now hF.1 (hF.get 0 hn.1)))
    · refine step_og (Op.fieldAddr 33 (.tmp 4) 0) (some 36) 1 true 35 [1] al6.ns (by kernel_rfl) (by kernel_rfl) rfl (by kernel_rfl) (fun o ho hd hw0 l xs W hF hl hn K hK => ?_)
      have eg : (putZ a al6.ns 0 xs).eval (.tmp 35) = .bool true := (eval_z 1 (hsz 35 (by decide))).trans (hF.get 1 hn.1)
      have hw := hw0 (putZ a al6.ns 0 xs) (by rw [putZ_size]; exact hsz 35 (by decide)) eg
      have e1 := eval_o (xs := xs) (ns := al6.ns) h4
      exact value_ (v := .pointer (some ⟨b4, 0, none⟩)) hw hd (w1 := W) (by simp only [execOp, ho, e1]; go_simp) (hK.out _ _ (hF.now hF.1 rfl))
    · refine step_og (Op.load 31 (.tmp 36)) (some 37) 1 true 35 [2, 1] al6.ns (by kernel_rfl) (by kernel_rfl) rfl (by kernel_rfl) (fun o ho hd hw0 l xs W hF hl hn K hK => ?_)
      have eg : (putZ a al6.ns 0 xs).eval (.tmp 35) = .bool true := (eval_z 1 (hsz 35 (by decide))).trans (hF.get 1 hn.2.1)
      have hw := hw0 (putZ a al6.ns 0 xs) (by rw [putZ_size]; exact hsz 35 (by decide)) eg
      have e0 : (putZ a al6.ns 0 xs).eval (.tmp 36) = .pointer (some ⟨b4, 0, none⟩) := (eval_z 2 (hsz 36 (by decide))).trans (hF.get 2 hn.1)
      have q0 := (blk_cell (blk_below hb4 hF.1) 0).trans (Eq.refl (some (Value.int .i8 2)))
      exact value_ (v := .int .i8 2) hw hd (w1 := W) (by simp only [Act.eval, Array.getD_eq_getD_getElem?] at e0; simp only [execOp, ho]; go_simp) (hK.out _ _ (hF.now hF.1 rfl))
    · refine step_og (Op.binOp .eql 31 (.tmp 37) (.const (.int .i8 2)) 31) (some 38) 1 true 35 [3, 1] al6.ns (by kernel_rfl) (by kernel_rfl) rfl (by kernel_rfl) (fun o ho hd hw0 l xs W hF hl hn K hK => ?_)
      have eg : (putZ a al6.ns 0 xs).eval (.tmp 35) = .bool true := (eval_z 1 (hsz 35 (by decide))).trans (hF.get 1 hn.2.1)
      have hw := hw0 (putZ a al6.ns 0 xs) (by rw [putZ_size]; exact hsz 35 (by decide)) eg
      have e0 : (putZ a al6.ns 0 xs).eval (.tmp 37) = .int .i8 2 := (eval_z 3 (hsz 37 (by decide))).trans (hF.get 3 hn.1)
      exact value_ (v := .bool true) hw hd (w1 := W) (by simp only [Act.eval, Array.getD_eq_getD_getElem?] at e0; simp only [execOp, ho]; go_simp) (hK.out _ _ (hF.now hF.1 rfl))
    · refine step_op (Op.pick (.tmp 35) (.tmp 38) (.const (.bool false))) (some 39) [1, 4] al6.ns (by kernel_rfl) rfl (by kernel_rfl) (fun o ho hd hw l xs W hF hl hn K hK => ?_)
      have e0 : (putZ a al6.ns 0 xs).eval (.tmp 35) = .bool true := (eval_z 1 (hsz 35 (by decide))).trans (hF.get 1 hn.1)
      have e1 : (putZ a al6.ns 0 xs).eval (.tmp 38) = .bool true := (eval_z 4 (hsz 38 (by decide))).trans (hF.get 4 hn.2.1)
      exact value_ (v := .bool true) (hw _) hd (w1 := W) (by simp only [Act.eval, Array.getD_eq_getD_getElem?] at e0 e1; simp only [execOp, ho]; go_simp) (hK.out _ _ (hF.now hF.1 rfl))
    · refine step_op (Op.move (.tmp 39)) (some 40) [5, 1] al6.ns (by kernel_rfl) rfl (by kernel_rfl) (fun o ho hd hw l xs W hF hl hn K hK => ?_)
      have e1 : (putZ a al6.ns 0 xs).eval (.tmp 39) = xs 5 := eval_z 5 (hsz 39 (by decide))
      exact value_ (v := xs 5) (hw _) hd (w1 := W) (by simp only [execOp, ho, e1]; go_simp) (hK.out _ _ (hF.now hF.1 (hF.get 5 hn.1)))
    · refine step_og (Op.fieldAddr 33 (.tmp 4) 1) (some 41) 6 true 40 [6] al6.ns (by kernel_rfl) (by kernel_rfl) rfl (by kernel_rfl) (fun o ho hd hw0 l xs W hF hl hn K hK => ?_)
      have eg : (putZ a al6.ns 0 xs).eval (.tmp 40) = .bool true := (eval_z 6 (hsz 40 (by decide))).trans (hF.get 6 hn.1)
      have hw := hw0 (putZ a al6.ns 0 xs) (by rw [putZ_size]; exact hsz 40 (by decide)) eg
      have e1 := eval_o (xs := xs) (ns := al6.ns) h4
      exact value_ (v := .pointer (some ⟨b4, 1, none⟩)) hw hd (w1 := W) (by simp only [execOp, ho, e1]; go_simp) (hK.out _ _ (hF.now hF.1 rfl))
    · refine step_og (Op.load 3 (.tmp 41)) (some 42) 6 true 40 [7, 6] al6.ns (by kernel_rfl) (by kernel_rfl) rfl (by kernel_rfl) (fun o ho hd hw0 l xs W hF hl hn K hK => ?_)
      have eg : (putZ a al6.ns 0 xs).eval (.tmp 40) = .bool true := (eval_z 6 (hsz 40 (by decide))).trans (hF.get 6 hn.2.1)
      have hw := hw0 (putZ a al6.ns 0 xs) (by rw [putZ_size]; exact hsz 40 (by decide)) eg
      have e0 : (putZ a al6.ns 0 xs).eval (.tmp 41) = .pointer (some ⟨b4, 1, none⟩) := (eval_z 7 (hsz 41 (by decide))).trans (hF.get 7 hn.1)
      have q0 := (blk_cell (blk_below hb4 hF.1) 1).trans (Eq.refl (some (Value.int .i64 1)))
      exact value_ (v := .int .i64 1) hw hd (w1 := W) (by simp only [Act.eval, Array.getD_eq_getD_getElem?] at e0; simp only [execOp, ho]; go_simp) (hK.out _ _ (hF.now hF.1 rfl))
    · refine step_og (Op.binOp .eql 3 (.tmp 42) (.const (.int .i64 1)) 3) (some 43) 6 true 40 [8, 6] al6.ns (by kernel_rfl) (by kernel_rfl) rfl (by kernel_rfl) (fun o ho hd hw0 l xs W hF hl hn K hK => ?_)
      have eg : (putZ a al6.ns 0 xs).eval (.tmp 40) = .bool true := (eval_z 6 (hsz 40 (by decide))).trans (hF.get 6 hn.2.1)
      have hw := hw0 (putZ a al6.ns 0 xs) (by rw [putZ_size]; exact hsz 40 (by decide)) eg
      have e0 : (putZ a al6.ns 0 xs).eval (.tmp 42) = .int .i64 1 := (eval_z 8 (hsz 42 (by decide))).trans (hF.get 8 hn.1)
      exact value_ (v := .bool true) hw hd (w1 := W) (by simp only [Act.eval, Array.getD_eq_getD_getElem?] at e0; simp only [execOp, ho]; go_simp) (hK.out _ _ (hF.now hF.1 rfl))
    · refine step_op (Op.pick (.tmp 40) (.tmp 43) (.const (.bool false))) (some 44) [6, 9] al6.ns (by kernel_rfl) rfl (by kernel_rfl) (fun o ho hd hw l xs W hF hl hn K hK => ?_)
      have e0 : (putZ a al6.ns 0 xs).eval (.tmp 40) = .bool true := (eval_z 6 (hsz 40 (by decide))).trans (hF.get 6 hn.1)
      have e1 : (putZ a al6.ns 0 xs).eval (.tmp 43) = .bool true := (eval_z 9 (hsz 43 (by decide))).trans (hF.get 9 hn.2.1)
      exact value_ (v := .bool true) (hw _) hd (w1 := W) (by simp only [Act.eval, Array.getD_eq_getD_getElem?] at e0 e1; simp only [execOp, ho]; go_simp) (hK.out _ _ (hF.now hF.1 rfl))
    · refine step_op (Op.move (.tmp 44)) (some 45) [10, 6] al6.ns (by kernel_rfl) rfl (by kernel_rfl) (fun o ho hd hw l xs W hF hl hn K hK => ?_)
      have e1 : (putZ a al6.ns 0 xs).eval (.tmp 44) = xs 10 := eval_z 10 (hsz 44 (by decide))
      exact value_ (v := xs 10) (hw _) hd (w1 := W) (by simp only [execOp, ho, e1]; go_simp) (hK.out _ _ (hF.now hF.1 (hF.get 10 hn.1)))
    · refine step_og (Op.call { callee := .value (.func 44), args := #[], argTypes := #[] }) (some 46) 11 true 45 [11, 11] al6.ns (by kernel_rfl) (by kernel_rfl) rfl (by kernel_rfl) (fun o ho hd hw0 l xs W hF hl hn K hK => ?_)
      have eg : (putZ a al6.ns 0 xs).eval (.tmp 45) = .bool true := (eval_z 11 (hsz 45 (by decide))).trans (hF.get 11 hn.1)
      have hw := hw0 (putZ a al6.ns 0 xs) (by rw [putZ_size]; exact hsz 45 (by decide)) eg
      refine goes_ Tryd.func44 (by kernel_rfl) rfl #[] hw hd ho (by simp only [List.map_toArray, List.map_cons, List.map_nil, ]) ?_
      refine (wsmall_v W).mono ?_
      rintro e W' ⟨v, rfl, hv, hb⟩
      exact ⟨_, rfl, hK.out _ _ (hF.up (hF.1.trans (hb.mono hF.1.size)) (fun j v _ _ h => al6.mono j h hb) (hv))⟩
    · refine step_og (Op.load 30 (.tmp 1)) (some 47) 11 true 45 [11] al6.ns (by kernel_rfl) (by kernel_rfl) rfl (by kernel_rfl) (fun o ho hd hw0 l xs W hF hl hn K hK => ?_)
      have eg : (putZ a al6.ns 0 xs).eval (.tmp 45) = .bool true := (eval_z 11 (hsz 45 (by decide))).trans (hF.get 11 hn.1)
      have hw := hw0 (putZ a al6.ns 0 xs) (by rw [putZ_size]; exact hsz 45 (by decide)) eg
      have e1 := eval_o (xs := xs) (ns := al6.ns) h1
      exact load_c hw hd ho b1 e1 (blk_below hb1 hF.1) Tryd.underlying30 rfl (by kernel_rfl) (hK.out _ _ (hF.now hF.1 (rfl)))
    · refine step_og (Op.load 33 (.tmp 3)) (some 48) 11 true 45 [11] al6.ns (by kernel_rfl) (by kernel_rfl) rfl (by kernel_rfl) (fun o ho hd hw0 l xs W hF hl hn K hK => ?_)
      have eg : (putZ a al6.ns 0 xs).eval (.tmp 45) = .bool true := (eval_z 11 (hsz 45 (by decide))).trans (hF.get 11 hn.1)
      have hw := hw0 (putZ a al6.ns 0 xs) (by rw [putZ_size]; exact hsz 45 (by decide)) eg
      have e1 := eval_o (xs := xs) (ns := al6.ns) h3
      exact load_c hw hd ho b3 e1 (blk_below hb3 hF.1) Tryd.underlying33 rfl (by kernel_rfl) (hK.out _ _ (hF.now hF.1 (rfl)))
    · refine step_og (Op.call { callee := .value (.func 22), args := #[.tmp 46, .tmp 47, .tmp 48], argTypes := #[28, 30, 33] }) (some 49) 11 true 45 [12, 13, 14, 12, 11] al6.ns (by kernel_rfl) (by kernel_rfl) rfl (by kernel_rfl) (fun o ho hd hw0 l xs W hF hl hn K hK => ?_)
      have eg : (putZ a al6.ns 0 xs).eval (.tmp 45) = .bool true := (eval_z 11 (hsz 45 (by decide))).trans (hF.get 11 hn.2.2.2.2.1)
      have hw := hw0 (putZ a al6.ns 0 xs) (by rw [putZ_size]; exact hsz 45 (by decide)) eg
      obtain ⟨C_e0, e_e0, k_e0⟩ := hF.get 12 hn.1
      have e0 : (putZ a al6.ns 0 xs).eval (.tmp 46) = .agg C_e0 := (eval_z 12 (hsz 46 (by decide))).trans e_e0
      have e1 : (putZ a al6.ns 0 xs).eval (.tmp 47) = .agg #[.string openT.f0, .string openT.f1, .string openT.f2] := (eval_z 13 (hsz 47 (by decide))).trans (hF.get 13 hn.2.1)
      have e2 : (putZ a al6.ns 0 xs).eval (.tmp 48) = .agg #[.int .i8 4, .int .i64 1, .slice A6 2 c6, .slice A7 1 c7] := (eval_z 14 (hsz 48 (by decide))).trans (hF.get 14 hn.2.2.1)
      refine goes_ Tryd.func22 (by kernel_rfl) rfl #[.agg C_e0, .agg #[.string openT.f0, .string openT.f1, .string openT.f2], .agg #[.int .i8 4, .int .i64 1, .slice A6 2 c6, .slice A7 1 c7]] hw hd ho (by simp only [List.map_toArray, List.map_cons, List.map_nil, e0, e1, e2]) ?_
      refine (holds_b smallW C_e0 openT ⟨4, 1, [annW, clerkW], [doorW]⟩ #[.int .i8 4, .int .i64 1, .slice A6 2 c6, .slice A7 1 c7] W k_e0 (hr3 W hF.1) smallW_sz (by decide) ho_open).mono ?_
      rintro e W' ⟨rfl, hb⟩
      exact ⟨_, rfl, hK.out _ _ (hF.up (hF.1.trans (hb.mono hF.1.size)) (fun j v _ _ h => al6.mono j h hb) (rfl))⟩
    · refine step_op (Op.pick (.tmp 45) (.tmp 49) (.const (.bool false))) (some 50) [11, 15] al6.ns (by kernel_rfl) rfl (by kernel_rfl) (fun o ho hd hw l xs W hF hl hn K hK => ?_)
      have e0 : (putZ a al6.ns 0 xs).eval (.tmp 45) = .bool true := (eval_z 11 (hsz 45 (by decide))).trans (hF.get 11 hn.1)
      have e1 : (putZ a al6.ns 0 xs).eval (.tmp 49) = .bool true := (eval_z 15 (hsz 49 (by decide))).trans (hF.get 15 hn.2.1)
      exact value_ (v := .bool true) (hw _) hd (w1 := W) (by simp only [Act.eval, Array.getD_eq_getD_getElem?] at e0 e1; simp only [execOp, ho]; go_simp) (hK.out _ _ (hF.now hF.1 rfl))
    · refine step_op (Op.move (.tmp 50)) (some 51) [16, 15] al6.ns (by kernel_rfl) rfl (by kernel_rfl) (fun o ho hd hw l xs W hF hl hn K hK => ?_)
      have e1 : (putZ a al6.ns 0 xs).eval (.tmp 50) = xs 16 := eval_z 16 (hsz 50 (by decide))
      exact value_ (v := xs 16) (hw _) hd (w1 := W) (by simp only [execOp, ho, e1]; go_simp) (hK.out _ _ (hF.now hF.1 (hF.get 16 hn.1)))
    · refine step_og (Op.call { callee := .value (.func 44), args := #[], argTypes := #[] }) (some 52) 17 true 51 [17, 17] al6.ns (by kernel_rfl) (by kernel_rfl) rfl (by kernel_rfl) (fun o ho hd hw0 l xs W hF hl hn K hK => ?_)
      have eg : (putZ a al6.ns 0 xs).eval (.tmp 51) = .bool true := (eval_z 17 (hsz 51 (by decide))).trans (hF.get 17 hn.1)
      have hw := hw0 (putZ a al6.ns 0 xs) (by rw [putZ_size]; exact hsz 51 (by decide)) eg
      refine goes_ Tryd.func44 (by kernel_rfl) rfl #[] hw hd ho (by simp only [List.map_toArray, List.map_cons, List.map_nil, ]) ?_
      refine (wsmall_v W).mono ?_
      rintro e W' ⟨v, rfl, hv, hb⟩
      exact ⟨_, rfl, hK.out _ _ (hF.up (hF.1.trans (hb.mono hF.1.size)) (fun j v _ _ h => al6.mono j h hb) (hv))⟩
    · refine step_og (Op.load 30 (.tmp 2)) (some 53) 17 true 51 [17] al6.ns (by kernel_rfl) (by kernel_rfl) rfl (by kernel_rfl) (fun o ho hd hw0 l xs W hF hl hn K hK => ?_)
      have eg : (putZ a al6.ns 0 xs).eval (.tmp 51) = .bool true := (eval_z 17 (hsz 51 (by decide))).trans (hF.get 17 hn.1)
      have hw := hw0 (putZ a al6.ns 0 xs) (by rw [putZ_size]; exact hsz 51 (by decide)) eg
      have e1 := eval_o (xs := xs) (ns := al6.ns) h2
      exact load_c hw hd ho b2 e1 (blk_below hb2 hF.1) Tryd.underlying30 rfl (by kernel_rfl) (hK.out _ _ (hF.now hF.1 (rfl)))
    · refine step_og (Op.load 33 (.tmp 3)) (some 54) 17 true 51 [17] al6.ns (by kernel_rfl) (by kernel_rfl) rfl (by kernel_rfl) (fun o ho hd hw0 l xs W hF hl hn K hK => ?_)
      have eg : (putZ a al6.ns 0 xs).eval (.tmp 51) = .bool true := (eval_z 17 (hsz 51 (by decide))).trans (hF.get 17 hn.1)
      have hw := hw0 (putZ a al6.ns 0 xs) (by rw [putZ_size]; exact hsz 51 (by decide)) eg
      have e1 := eval_o (xs := xs) (ns := al6.ns) h3
      exact load_c hw hd ho b3 e1 (blk_below hb3 hF.1) Tryd.underlying33 rfl (by kernel_rfl) (hK.out _ _ (hF.now hF.1 (rfl)))
    · refine step_og (Op.call { callee := .value (.func 22), args := #[.tmp 52, .tmp 53, .tmp 54], argTypes := #[28, 30, 33] }) (some 55) 17 true 51 [18, 19, 20, 18, 17] al6.ns (by kernel_rfl) (by kernel_rfl) rfl (by kernel_rfl) (fun o ho hd hw0 l xs W hF hl hn K hK => ?_)
      have eg : (putZ a al6.ns 0 xs).eval (.tmp 51) = .bool true := (eval_z 17 (hsz 51 (by decide))).trans (hF.get 17 hn.2.2.2.2.1)
      have hw := hw0 (putZ a al6.ns 0 xs) (by rw [putZ_size]; exact hsz 51 (by decide)) eg
      obtain ⟨C_e0, e_e0, k_e0⟩ := hF.get 18 hn.1
      have e0 : (putZ a al6.ns 0 xs).eval (.tmp 52) = .agg C_e0 := (eval_z 18 (hsz 52 (by decide))).trans e_e0
      have e1 : (putZ a al6.ns 0 xs).eval (.tmp 53) = .agg #[.string shutT.f0, .string shutT.f1, .string shutT.f2] := (eval_z 19 (hsz 53 (by decide))).trans (hF.get 19 hn.2.1)
      have e2 : (putZ a al6.ns 0 xs).eval (.tmp 54) = .agg #[.int .i8 4, .int .i64 1, .slice A6 2 c6, .slice A7 1 c7] := (eval_z 20 (hsz 54 (by decide))).trans (hF.get 20 hn.2.2.1)
      refine goes_ Tryd.func22 (by kernel_rfl) rfl #[.agg C_e0, .agg #[.string shutT.f0, .string shutT.f1, .string shutT.f2], .agg #[.int .i8 4, .int .i64 1, .slice A6 2 c6, .slice A7 1 c7]] hw hd ho (by simp only [List.map_toArray, List.map_cons, List.map_nil, e0, e1, e2]) ?_
      refine (holds_b smallW C_e0 shutT ⟨4, 1, [annW, clerkW], [doorW]⟩ #[.int .i8 4, .int .i64 1, .slice A6 2 c6, .slice A7 1 c7] W k_e0 (hr3 W hF.1) smallW_sz (by decide) ho_shut).mono ?_
      rintro e W' ⟨rfl, hb⟩
      exact ⟨_, rfl, hK.out _ _ (hF.up (hF.1.trans (hb.mono hF.1.size)) (fun j v _ _ h => al6.mono j h hb) (rfl))⟩
    · refine step_og (Op.unOp .not 4 (.tmp 55)) (some 56) 17 true 51 [21, 17] al6.ns (by kernel_rfl) (by kernel_rfl) rfl (by kernel_rfl) (fun o ho hd hw0 l xs W hF hl hn K hK => ?_)
      have eg : (putZ a al6.ns 0 xs).eval (.tmp 51) = .bool true := (eval_z 17 (hsz 51 (by decide))).trans (hF.get 17 hn.2.1)
      have hw := hw0 (putZ a al6.ns 0 xs) (by rw [putZ_size]; exact hsz 51 (by decide)) eg
      have e0 : (putZ a al6.ns 0 xs).eval (.tmp 55) = .bool false := (eval_z 21 (hsz 55 (by decide))).trans (hF.get 21 hn.1)
      exact value_ (v := .bool true) hw hd (w1 := W) (by simp only [Act.eval, Array.getD_eq_getD_getElem?] at e0; simp only [execOp, ho]; go_simp) (hK.out _ _ (hF.now hF.1 rfl))
    · refine step_op (Op.pick (.tmp 51) (.tmp 56) (.const (.bool false))) (some 57) [17, 22] al6.ns (by kernel_rfl) rfl (by kernel_rfl) (fun o ho hd hw l xs W hF hl hn K hK => ?_)
      have e0 : (putZ a al6.ns 0 xs).eval (.tmp 51) = .bool true := (eval_z 17 (hsz 51 (by decide))).trans (hF.get 17 hn.1)
      have e1 : (putZ a al6.ns 0 xs).eval (.tmp 56) = .bool true := (eval_z 22 (hsz 56 (by decide))).trans (hF.get 22 hn.2.1)
      exact value_ (v := .bool true) (hw _) hd (w1 := W) (by simp only [Act.eval, Array.getD_eq_getD_getElem?] at e0 e1; simp only [execOp, ho]; go_simp) (hK.out _ _ (hF.now hF.1 rfl))
    · refine step_op (Op.move (.tmp 57)) (some 58) [23, 21] al6.ns (by kernel_rfl) rfl (by kernel_rfl) (fun o ho hd hw l xs W hF hl hn K hK => ?_)
      have e1 : (putZ a al6.ns 0 xs).eval (.tmp 57) = xs 23 := eval_z 23 (hsz 57 (by decide))
      exact value_ (v := xs 23) (hw _) hd (w1 := W) (by simp only [execOp, ho, e1]; go_simp) (hK.out _ _ (hF.now hF.1 (hF.get 23 hn.1)))
    · refine step_og (Op.call { callee := .value (.func 44), args := #[], argTypes := #[] }) (some 59) 24 true 58 [24, 24] al6.ns (by kernel_rfl) (by kernel_rfl) rfl (by kernel_rfl) (fun o ho hd hw0 l xs W hF hl hn K hK => ?_)
      have eg : (putZ a al6.ns 0 xs).eval (.tmp 58) = .bool true := (eval_z 24 (hsz 58 (by decide))).trans (hF.get 24 hn.1)
      have hw := hw0 (putZ a al6.ns 0 xs) (by rw [putZ_size]; exact hsz 58 (by decide)) eg
      refine goes_ Tryd.func44 (by kernel_rfl) rfl #[] hw hd ho (by simp only [List.map_toArray, List.map_cons, List.map_nil, ]) ?_
      refine (wsmall_v W).mono ?_
      rintro e W' ⟨v, rfl, hv, hb⟩
      exact ⟨_, rfl, hK.out _ _ (hF.up (hF.1.trans (hb.mono hF.1.size)) (fun j v _ _ h => al6.mono j h hb) (hv))⟩
    · refine step_og (Op.call { callee := .value (.func 24), args := #[.tmp 59, .const (.string ⟨#[100, 111, 111, 114]⟩), .const (.string ⟨#[111, 112, 101, 110]⟩)], argTypes := #[28, 9, 9] }) (some 60) 24 true 58 [25, 25, 24] al6.ns (by kernel_rfl) (by kernel_rfl) rfl (by kernel_rfl) (fun o ho hd hw0 l xs W hF hl hn K hK => ?_)
      have eg : (putZ a al6.ns 0 xs).eval (.tmp 58) = .bool true := (eval_z 24 (hsz 58 (by decide))).trans (hF.get 24 hn.2.2.1)
      have hw := hw0 (putZ a al6.ns 0 xs) (by rw [putZ_size]; exact hsz 58 (by decide)) eg
      obtain ⟨C_e0, e_e0, k_e0⟩ := hF.get 25 hn.1
      have e0 : (putZ a al6.ns 0 xs).eval (.tmp 59) = .agg C_e0 := (eval_z 25 (hsz 59 (by decide))).trans e_e0
      refine goes_ Tryd.func24 (by kernel_rfl) rfl #[.agg C_e0, .string ⟨#[100, 111, 111, 114]⟩, .string ⟨#[111, 112, 101, 110]⟩] hw hd ho (by simp only [List.map_toArray, List.map_cons, List.map_nil, e0, eval_const]) ?_
      refine (who_one C_e0 W k_e0).mono ?_
      rintro e W' ⟨A, c, rfl, hb⟩
      exact ⟨_, rfl, hK.out _ _ (hF.up (hF.1.trans (hb.mono hF.1.size)) (fun j v _ _ h => al6.mono j h hb) (⟨A, c, rfl⟩))⟩
    · refine step_og (Op.call { callee := .builtin .len, args := #[.tmp 60], argTypes := #[22] }) (some 61) 24 true 58 [26, 24] al6.ns (by kernel_rfl) (by kernel_rfl) rfl (by kernel_rfl) (fun o ho hd hw0 l xs W hF hl hn K hK => ?_)
      have eg : (putZ a al6.ns 0 xs).eval (.tmp 58) = .bool true := (eval_z 24 (hsz 58 (by decide))).trans (hF.get 24 hn.2.1)
      have hw := hw0 (putZ a al6.ns 0 xs) (by rw [putZ_size]; exact hsz 58 (by decide)) eg
      obtain ⟨A_e0, c_e0, e_e0⟩ := hF.get 26 hn.1
      have e0 : (putZ a al6.ns 0 xs).eval (.tmp 60) = .slice A_e0 1 c_e0 := (eval_z 26 (hsz 60 (by decide))).trans e_e0
      exact value_ (v := .int .i64 1) hw hd (w1 := W) (by simp only [Act.eval, Array.getD_eq_getD_getElem?] at e0; simp only [execOp, ho]; go_simp) (hK.out _ _ (hF.now hF.1 rfl))
    · refine step_og (Op.binOp .eql 3 (.tmp 61) (.const (.int .i64 1)) 3) (some 62) 24 true 58 [27, 24] al6.ns (by kernel_rfl) (by kernel_rfl) rfl (by kernel_rfl) (fun o ho hd hw0 l xs W hF hl hn K hK => ?_)
      have eg : (putZ a al6.ns 0 xs).eval (.tmp 58) = .bool true := (eval_z 24 (hsz 58 (by decide))).trans (hF.get 24 hn.2.1)
      have hw := hw0 (putZ a al6.ns 0 xs) (by rw [putZ_size]; exact hsz 58 (by decide)) eg
      have e0 : (putZ a al6.ns 0 xs).eval (.tmp 61) = .int .i64 1 := (eval_z 27 (hsz 61 (by decide))).trans (hF.get 27 hn.1)
      exact value_ (v := .bool true) hw hd (w1 := W) (by simp only [Act.eval, Array.getD_eq_getD_getElem?] at e0; simp only [execOp, ho]; go_simp) (hK.out _ _ (hF.now hF.1 rfl))
    · refine step_op (Op.pick (.tmp 58) (.tmp 62) (.const (.bool false))) (some 63) [24, 28] al6.ns (by kernel_rfl) rfl (by kernel_rfl) (fun o ho hd hw l xs W hF hl hn K hK => ?_)
      have e0 : (putZ a al6.ns 0 xs).eval (.tmp 58) = .bool true := (eval_z 24 (hsz 58 (by decide))).trans (hF.get 24 hn.1)
      have e1 : (putZ a al6.ns 0 xs).eval (.tmp 62) = .bool true := (eval_z 28 (hsz 62 (by decide))).trans (hF.get 28 hn.2.1)
      exact value_ (v := .bool true) (hw _) hd (w1 := W) (by simp only [Act.eval, Array.getD_eq_getD_getElem?] at e0 e1; simp only [execOp, ho]; go_simp) (hK.out _ _ (hF.now hF.1 rfl))
    · refine step_op (Op.move (.tmp 63)) (some 64) [29, 26] al6.ns (by kernel_rfl) rfl (by kernel_rfl) (fun o ho hd hw l xs W hF hl hn K hK => ?_)
      have e1 : (putZ a al6.ns 0 xs).eval (.tmp 63) = xs 29 := eval_z 29 (hsz 63 (by decide))
      exact value_ (v := xs 29) (hw _) hd (w1 := W) (by simp only [execOp, ho, e1]; go_simp) (hK.out _ _ (hF.now hF.1 (hF.get 29 hn.1)))
    · refine step_og (Op.call { callee := .value (.func 44), args := #[], argTypes := #[] }) (some 65) 30 true 64 [30, 30] al6.ns (by kernel_rfl) (by kernel_rfl) rfl (by kernel_rfl) (fun o ho hd hw0 l xs W hF hl hn K hK => ?_)
      have eg : (putZ a al6.ns 0 xs).eval (.tmp 64) = .bool true := (eval_z 30 (hsz 64 (by decide))).trans (hF.get 30 hn.1)
      have hw := hw0 (putZ a al6.ns 0 xs) (by rw [putZ_size]; exact hsz 64 (by decide)) eg
      refine goes_ Tryd.func44 (by kernel_rfl) rfl #[] hw hd ho (by simp only [List.map_toArray, List.map_cons, List.map_nil, ]) ?_
      refine (wsmall_v W).mono ?_
      rintro e W' ⟨v, rfl, hv, hb⟩
      exact ⟨_, rfl, hK.out _ _ (hF.up (hF.1.trans (hb.mono hF.1.size)) (fun j v _ _ h => al6.mono j h hb) (hv))⟩
    · refine step_og (Op.load 30 (.tmp 2)) (some 66) 30 true 64 [30] al6.ns (by kernel_rfl) (by kernel_rfl) rfl (by kernel_rfl) (fun o ho hd hw0 l xs W hF hl hn K hK => ?_)
      have eg : (putZ a al6.ns 0 xs).eval (.tmp 64) = .bool true := (eval_z 30 (hsz 64 (by decide))).trans (hF.get 30 hn.1)
      have hw := hw0 (putZ a al6.ns 0 xs) (by rw [putZ_size]; exact hsz 64 (by decide)) eg
      have e1 := eval_o (xs := xs) (ns := al6.ns) h2
      exact load_c hw hd ho b2 e1 (blk_below hb2 hF.1) Tryd.underlying30 rfl (by kernel_rfl) (hK.out _ _ (hF.now hF.1 (rfl)))
    · refine step_og (Op.load 33 (.tmp 4)) (some 67) 30 true 64 [30] al6.ns (by kernel_rfl) (by kernel_rfl) rfl (by kernel_rfl) (fun o ho hd hw0 l xs W hF hl hn K hK => ?_)
      have eg : (putZ a al6.ns 0 xs).eval (.tmp 64) = .bool true := (eval_z 30 (hsz 64 (by decide))).trans (hF.get 30 hn.1)
      have hw := hw0 (putZ a al6.ns 0 xs) (by rw [putZ_size]; exact hsz 64 (by decide)) eg
      have e1 := eval_o (xs := xs) (ns := al6.ns) h4
      exact load_c hw hd ho b4 e1 (blk_below hb4 hF.1) Tryd.underlying33 rfl (by kernel_rfl) (hK.out _ _ (hF.now hF.1 (rfl)))
    · refine step_og (Op.call { callee := .value (.func 13), args := #[.tmp 65, .tmp 66, .tmp 67], argTypes := #[28, 30, 33] }) (some 68) 30 true 64 [31, 32, 33, 31, 30] al6.ns (by kernel_rfl) (by kernel_rfl) rfl (by kernel_rfl) (fun o ho hd hw0 l xs W hF hl hn K hK => ?_)
      have eg : (putZ a al6.ns 0 xs).eval (.tmp 64) = .bool true := (eval_z 30 (hsz 64 (by decide))).trans (hF.get 30 hn.2.2.2.2.1)
      have hw := hw0 (putZ a al6.ns 0 xs) (by rw [putZ_size]; exact hsz 64 (by decide)) eg
      obtain ⟨C_e0, e_e0, k_e0⟩ := hF.get 31 hn.1
      have e0 : (putZ a al6.ns 0 xs).eval (.tmp 65) = .agg C_e0 := (eval_z 31 (hsz 65 (by decide))).trans e_e0
      have e1 : (putZ a al6.ns 0 xs).eval (.tmp 66) = .agg #[.string shutT.f0, .string shutT.f1, .string shutT.f2] := (eval_z 32 (hsz 66 (by decide))).trans (hF.get 32 hn.2.1)
      have e2 : (putZ a al6.ns 0 xs).eval (.tmp 67) = .agg #[.int .i8 2, .int .i64 1, .slice B6 0 d6, .slice B7 0 d7] := (eval_z 33 (hsz 67 (by decide))).trans (hF.get 33 hn.2.2.1)
      refine goes_ Tryd.func13 (by kernel_rfl) rfl #[.agg C_e0, .agg #[.string shutT.f0, .string shutT.f1, .string shutT.f2], .agg #[.int .i8 2, .int .i64 1, .slice B6 0 d6, .slice B7 0 d7]] hw hd ho (by simp only [List.map_toArray, List.map_cons, List.map_nil, e0, e1, e2]) ?_
      refine (tell_exc smallW C_e0 shutT B6 B7 d6 d7 W k_e0 smallW_sz (hr4 W hF.1) ho_exc).mono ?_
      rintro e W' ⟨A, c, rfl, hb⟩
      exact ⟨_, rfl, hK.out _ _ (hF.up (hF.1.trans (hb.mono hF.1.size)) (fun j v _ _ h => al6.mono j h hb) (⟨A, c, rfl⟩))⟩
    · refine step_og (Op.call { callee := .builtin .len, args := #[.tmp 68], argTypes := #[22] }) (some 69) 30 true 64 [34, 30] al6.ns (by kernel_rfl) (by kernel_rfl) rfl (by kernel_rfl) (fun o ho hd hw0 l xs W hF hl hn K hK => ?_)
      have eg : (putZ a al6.ns 0 xs).eval (.tmp 64) = .bool true := (eval_z 30 (hsz 64 (by decide))).trans (hF.get 30 hn.2.1)
      have hw := hw0 (putZ a al6.ns 0 xs) (by rw [putZ_size]; exact hsz 64 (by decide)) eg
      obtain ⟨A_e0, c_e0, e_e0⟩ := hF.get 34 hn.1
      have e0 : (putZ a al6.ns 0 xs).eval (.tmp 68) = .slice A_e0 1 c_e0 := (eval_z 34 (hsz 68 (by decide))).trans e_e0
      exact value_ (v := .int .i64 1) hw hd (w1 := W) (by simp only [Act.eval, Array.getD_eq_getD_getElem?] at e0; simp only [execOp, ho]; go_simp) (hK.out _ _ (hF.now hF.1 rfl))
    · refine step_og (Op.binOp .eql 3 (.tmp 69) (.const (.int .i64 1)) 3) (some 70) 30 true 64 [35, 30] al6.ns (by kernel_rfl) (by kernel_rfl) rfl (by kernel_rfl) (fun o ho hd hw0 l xs W hF hl hn K hK => ?_)
      have eg : (putZ a al6.ns 0 xs).eval (.tmp 64) = .bool true := (eval_z 30 (hsz 64 (by decide))).trans (hF.get 30 hn.2.1)
      have hw := hw0 (putZ a al6.ns 0 xs) (by rw [putZ_size]; exact hsz 64 (by decide)) eg
      have e0 : (putZ a al6.ns 0 xs).eval (.tmp 69) = .int .i64 1 := (eval_z 35 (hsz 69 (by decide))).trans (hF.get 35 hn.1)
      exact value_ (v := .bool true) hw hd (w1 := W) (by simp only [Act.eval, Array.getD_eq_getD_getElem?] at e0; simp only [execOp, ho]; go_simp) (hK.out _ _ (hF.now hF.1 rfl))
    · refine step_op (Op.pick (.tmp 64) (.tmp 70) (.const (.bool false))) (some 71) [30, 36] al6.ns (by kernel_rfl) rfl (by kernel_rfl) (fun o ho hd hw l xs W hF hl hn K hK => ?_)
      have e0 : (putZ a al6.ns 0 xs).eval (.tmp 64) = .bool true := (eval_z 30 (hsz 64 (by decide))).trans (hF.get 30 hn.1)
      have e1 : (putZ a al6.ns 0 xs).eval (.tmp 70) = .bool true := (eval_z 36 (hsz 70 (by decide))).trans (hF.get 36 hn.2.1)
      exact value_ (v := .bool true) (hw _) hd (w1 := W) (by simp only [Act.eval, Array.getD_eq_getD_getElem?] at e0 e1; simp only [execOp, ho]; go_simp) (hK.out _ _ (hF.now hF.1 rfl))
    · refine step_op (Op.assign (.tmp 71)) (some 0) [37, 34, 0, 1, 2, 3, 4, 5, 6, 7, 8, 9, 10, 11, 12, 13, 14, 15, 16, 17, 18, 19, 20, 21, 22, 23, 24, 25, 26, 27, 28, 29, 30, 31, 32, 33, 34, 35, 36, 37] al6.ns (by kernel_rfl) rfl (by kernel_rfl) (fun o ho hd hw l xs W hF hl hn K hK => ?_)
      have e1 : (putZ a al6.ns 0 xs).eval (.tmp 71) = xs 37 := eval_z 37 (hsz 71 (by decide))
      exact value_ (v := xs 37) (hw _) hd (w1 := W) (by simp only [execOp, ho, e1]; go_simp) (hK.out _ _ (hF.now hF.1 (hF.get 37 hn.1)))
end Go.Proofs.YteefneemmdfncaaDoor.M
