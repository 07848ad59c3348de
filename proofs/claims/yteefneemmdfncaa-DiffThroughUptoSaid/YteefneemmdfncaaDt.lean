import Derived.Test.YteefneemmdfncaaDe
/- DiffTurns: its regions that draw their order; its plain part. Conditions: each theorem's own. -/
namespace Go.Proofs.Yteefneemmdfncaa.M
open Go.RowKit Go.Proofs.YteefneemmdfncaaW.Raw Go.Proofs.YteefneemmdfncaaW.PrintWords Go.Proofs.YteefneemmdfncaaW.PrintLast Go.Proofs.YteefneemmdfncaaW.PrintAll Go.Proofs.Yteefneemmdfncaa.F
set_option linter.unusedVariables false
set_option linter.unusedSimpArgs false

abbrev dt7.ns : List (Option Tmp) := [some 32, some 33, some 34, some 35, some 36, some 11]
def dt7.T : Bool × List (List Nat × List Nat) := (true, [([], []), ([0], [0]), ([], []), ([2, 1], [2]), ([1, 3, 3], [1, 3]), ([4, 4, 0, 1, 2, 3, 4], [4])])
theorem dt7.tab : rtab .any (opsOf Try.f10 7) = dt7.T := by kernel_rfl
def dt7.V (p q : Pol) : Nat → Value → World → Prop
  | 0 => PolV p
  | 1 => PolV p
  | 2 => PolV q
  | 3 => PolV q
  | 4 => ChV (chL p q)
  | 5 => ChV (chL p q)
  | _ => fun _ _ => True
theorem dt7.mono {p q : Pol} : ∀ (j : Nat) {v : Value} {W W' : World}, dt7.V p q j v W → Below W.heap.size W W' → dt7.V p q j v W'
  | 0, _, _, _, h, hb => PolV.mono h hb
  | 1, _, _, _, h, hb => PolV.mono h hb
  | 2, _, _, _, h, hb => PolV.mono h hb
  | 3, _, _, _, h, hb => PolV.mono h hb
  | 4, _, _, _, h, hb => ChV.mono h hb
  | 5, _, _, _, h, hb => ChV.mono h hb
  | n + 6, _, _, _, _, _ => trivial
set_option maxRecDepth 100000 in
set_option maxHeartbeats 2000000 in
theorem dt7.region {Q : Exit → Act → World → Prop} {id : Nat} {a : Act} {w : World} (p q : Pol) {b3 b4 : Nat} (C0 D0 : Array Value) (kp : k28.K w p C0.toList) (kq : k28.K w q D0.toList) (hsp : Sz p) (hsq : Sz q) (hdpq : okD p q = true) (hm : Try.prog.follows .mixedOrders = true) (hs : a.tmps.size = 154) (h3 : a.eval (.tmp 3) = .pointer (some ⟨b3, 0, none⟩)) (hb3 : w.heap[b3]? = some (Obj.cells C0 28 (0, 0)))  (h4 : a.eval (.tmp 4) = .pointer (some ⟨b4, 0, none⟩)) (hb4 : w.heap[b4]? = some (Obj.cells D0 28 (0, 0)))  
    (hdone : ∀ (xs : Nat → Value) (W : World), Below w.heap.size w W → ChV (chL p q) (xs 5) W → Q .normal (putZ a dt7.ns 0 xs) W) :
    (Code.region id (opsOf Try.f10 7) true).wp Try.prog Q a w := by
  refine region_pred (T := dt7.T) 6 (fun _ W => Below w.heap.size w W) (dt7.V p q) hm (by kernel_rfl) dt7.tab (by kernel_rfl) (by kernel_rfl) (below_drew (Below.refl _ _)) (fun _ h => h) ?hsteps ?hd
  case hd => exact fun xs W hI hV => hdone xs W hI (hV 5 (by decide))
  case hsteps =>
    have hsz : ∀ t, t < 154 → t < a.tmps.size := fun t ht => by rw [hs]; exact ht
    refine ⟨?_, ?_, ?_, ?_, ?_, ?_, trivial⟩
    · refine step_op (Op.load 28 (.tmp 3)) (some 32) [] dt7.ns (by kernel_rfl) rfl (by kernel_rfl) (fun o ho hd hw l xs W hF hl hn K hK => ?_)
      have e1 := eval_o (xs := xs) (ns := dt7.ns) h3
      exact load_c (hw _) hd ho b3 e1 (blk_below hb3 hF.1) Try.underlying28 rfl (pol_size kp) (hK.out _ _ (hF.now hF.1 (⟨_, rfl, k28.K_below hF.1 kp⟩)))
    · refine step_op (Op.call { callee := .value (.func 30), args := #[.tmp 32], argTypes := #[28] }) (some 33) [0] dt7.ns (by kernel_rfl) rfl (by kernel_rfl) (fun o ho hd hw l xs W hF hl hn K hK => ?_)
      obtain ⟨C_e0, e_e0, k_e0⟩ := hF.get 0 hn.1
      have e0 : (putZ a dt7.ns 0 xs).eval (.tmp 32) = .agg C_e0 := (eval_z 0 (hsz 32 (by decide))).trans e_e0
      refine goes_ Try.func30 (by kernel_rfl) rfl #[.agg C_e0] (hw _) hd ho (by simp only [List.map_toArray, List.map_cons, List.map_nil, e0]) ?_
      refine (twin_k p _ W k_e0 hsp).mono ?_
      rintro e W' ⟨C1, rfl, hk, hb⟩
      exact ⟨_, rfl, hK.out _ _ (hF.up (hF.1.trans (hb.mono hF.1.size)) (fun j v _ _ h => dt7.mono j h hb) (⟨C1, rfl, hk⟩))⟩
    · refine step_op (Op.load 28 (.tmp 4)) (some 34) [] dt7.ns (by kernel_rfl) rfl (by kernel_rfl) (fun o ho hd hw l xs W hF hl hn K hK => ?_)
      have e1 := eval_o (xs := xs) (ns := dt7.ns) h4
      exact load_c (hw _) hd ho b4 e1 (blk_below hb4 hF.1) Try.underlying28 rfl (pol_size kq) (hK.out _ _ (hF.now hF.1 (⟨_, rfl, k28.K_below hF.1 kq⟩)))
    · refine step_op (Op.call { callee := .value (.func 30), args := #[.tmp 34], argTypes := #[28] }) (some 35) [2, 1] dt7.ns (by kernel_rfl) rfl (by kernel_rfl) (fun o ho hd hw l xs W hF hl hn K hK => ?_)
      obtain ⟨C_e0, e_e0, k_e0⟩ := hF.get 2 hn.1
      have e0 : (putZ a dt7.ns 0 xs).eval (.tmp 34) = .agg C_e0 := (eval_z 2 (hsz 34 (by decide))).trans e_e0
      refine goes_ Try.func30 (by kernel_rfl) rfl #[.agg C_e0] (hw _) hd ho (by simp only [List.map_toArray, List.map_cons, List.map_nil, e0]) ?_
      refine (twin_k q _ W k_e0 hsq).mono ?_
      rintro e W' ⟨C1, rfl, hk, hb⟩
      exact ⟨_, rfl, hK.out _ _ (hF.up (hF.1.trans (hb.mono hF.1.size)) (fun j v _ _ h => dt7.mono j h hb) (⟨C1, rfl, hk⟩))⟩
    · refine step_op (Op.call { callee := .value (.func 35), args := #[.tmp 33, .tmp 35], argTypes := #[28, 28] }) (some 36) [1, 3, 3] dt7.ns (by kernel_rfl) rfl (by kernel_rfl) (fun o ho hd hw l xs W hF hl hn K hK => ?_)
      obtain ⟨C_e0, e_e0, k_e0⟩ := hF.get 1 hn.1
      have e0 : (putZ a dt7.ns 0 xs).eval (.tmp 33) = .agg C_e0 := (eval_z 1 (hsz 33 (by decide))).trans e_e0
      obtain ⟨C_e1, e_e1, k_e1⟩ := hF.get 3 hn.2.1
      have e1 : (putZ a dt7.ns 0 xs).eval (.tmp 35) = .agg C_e1 := (eval_z 3 (hsz 35 (by decide))).trans e_e1
      refine goes_ Try.func35 (by kernel_rfl) rfl #[.agg C_e0, .agg C_e1] (hw _) hd ho (by simp only [List.map_toArray, List.map_cons, List.map_nil, e0, e1]) ?_
      refine (list_v p q _ _ W k_e0 k_e1 hdpq).mono ?_
      rintro e W' ⟨v, rfl, hv, hb⟩
      exact ⟨_, rfl, hK.out _ _ (hF.up (hF.1.trans (hb.mono hF.1.size)) (fun j v _ _ h => dt7.mono j h hb) (hv))⟩
    · refine step_op (Op.assign (.tmp 36)) (some 11) [4, 4, 0, 1, 2, 3, 4] dt7.ns (by kernel_rfl) rfl (by kernel_rfl) (fun o ho hd hw l xs W hF hl hn K hK => ?_)
      have e1 : (putZ a dt7.ns 0 xs).eval (.tmp 36) = xs 4 := eval_z 4 (hsz 36 (by decide))
      exact value_ (v := xs 4) (hw _) hd (w1 := W) (by simp only [execOp, ho, e1]; go_simp) (hK.out _ _ (hF.now hF.1 (hF.get 4 hn.1)))
abbrev dt28.ns : List (Option Tmp) := [some 135, some 136, some 137, some 138, some 139, some 140, some 141, some 142, some 143, some 144, some 145, some 146, some 147, some 148, some 149, some 150, some 151, some 152, some 153, some 6]
def dt28.T : Bool × List (List Nat × List Nat) := (true, [([], []), ([0], [0]), ([], []), ([1, 2, 1], [1, 2]), ([], []), ([], []), ([4, 5, 3], [4, 5]), ([3, 6], [3, 6]), ([7, 6], [7]), ([8], [8]), ([9, 8, 8], [8, 9]), ([8], [8]), ([11, 10, 8], [8, 11]), ([10, 12, 12, 8], [8, 10, 12]), ([8], [8]), ([14, 8], [8, 14]), ([15, 8], [8, 15]), ([13, 16, 8], [8, 13, 16]), ([8, 17], [8, 17]), ([18, 13, 0, 1, 2, 3, 4, 5, 6, 7, 8, 9, 10, 11, 12, 13, 14, 15, 16, 17, 18], [18])])
theorem dt28.tab : rtab .any (opsOf Try.f10 28) = dt28.T := by kernel_rfl
def dt28.V (p q : Pol) (t : Tri) : Nat → Value → World → Prop
  | 0 => PolV p
  | 1 => PolV p
  | 2 => IsV (.agg #[.string t.f0, .string t.f1, .string t.f2])
  | 3 => IsV (.bool (allowsB p t))
  | 4 => TrV (relL p)
  | 5 => IsV (.agg #[.string t.f0, .string t.f1, .string t.f2])
  | 6 => IsV (.bool (hasB (relL p) t))
  | 7 => IsV (.bool true)
  | 8 => IsV (.bool true)
  | 9 => PolV p
  | 10 => PolV p
  | 11 => PolV q
  | 12 => PolV q
  | 13 => IsV (.bool (sameB p q))
  | 14 => ChV (chL p q)
  | 15 => IsV (.int .i64 ((chL p q).length : Nat))
  | 16 => IsV (.bool (sameB p q))
  | 17 => IsV (.bool true)
  | 18 => IsV (.bool true)
  | 19 => IsV (.bool true)
  | _ => fun _ _ => True
theorem dt28.mono {p q : Pol} {t : Tri} : ∀ (j : Nat) {v : Value} {W W' : World}, dt28.V p q t j v W → Below W.heap.size W W' → dt28.V p q t j v W'
  | 0, _, _, _, h, hb => PolV.mono h hb
  | 1, _, _, _, h, hb => PolV.mono h hb
  | 2, _, _, _, h, hb => h
  | 3, _, _, _, h, hb => h
  | 4, _, _, _, h, hb => TrV.mono h hb
  | 5, _, _, _, h, hb => h
  | 6, _, _, _, h, hb => h
  | 7, _, _, _, h, hb => h
  | 8, _, _, _, h, hb => h
  | 9, _, _, _, h, hb => PolV.mono h hb
  | 10, _, _, _, h, hb => PolV.mono h hb
  | 11, _, _, _, h, hb => PolV.mono h hb
  | 12, _, _, _, h, hb => PolV.mono h hb
  | 13, _, _, _, h, hb => h
  | 14, _, _, _, h, hb => ChV.mono h hb
  | 15, _, _, _, h, hb => h
  | 16, _, _, _, h, hb => h
  | 17, _, _, _, h, hb => h
  | 18, _, _, _, h, hb => h
  | 19, _, _, _, h, hb => h
  | n + 20, _, _, _, _, _ => trivial
set_option maxRecDepth 100000 in
set_option maxHeartbeats 2000000 in
theorem dt28.region {Q : Exit → Act → World → Prop} {id : Nat} {a : Act} {w : World} (p q : Pol) (t : Tri) {b3 b4 b5 : Nat} (C0 D0 : Array Value) (kp : k28.K w p C0.toList) (kq : k28.K w q D0.toList) (hsp : Sz p) (hsq : Sz q) (hdpq : okD p q = true) (okp : OkP p) (hl9 : (relL p).length ≤ 1048576) {AO AL : Option Addr} {cO cL : Nat} (hlO : (relL p).length ≤ cO) (hlL : (chL p q).length ≤ cL) (hO : Kd.C k30 w AO (relL p).length (relL p)) (hL : Kd.C k53 w AL (chL p q).length (chL p q)) (hAH : hasB (relL p) t = allowsB p t) (hS : (((chL p q).length : Int) == 0) = sameB p q) (hm : Try.prog.follows .mixedOrders = true) (hs : a.tmps.size = 154) (h3 : a.eval (.tmp 3) = .pointer (some ⟨b3, 0, none⟩)) (hb3 : w.heap[b3]? = some (Obj.cells C0 28 (0, 0)))  (h4 : a.eval (.tmp 4) = .pointer (some ⟨b4, 0, none⟩)) (hb4 : w.heap[b4]? = some (Obj.cells D0 28 (0, 0)))  (h5 : a.eval (.tmp 5) = .pointer (some ⟨b5, 0, none⟩)) (hb5 : w.heap[b5]? = some (Obj.cells #[.string t.f0, .string t.f1, .string t.f2] 30 (0, 0)))  (h9 : a.eval (.tmp 9) = .slice AO (relL p).length cO) (h11 : a.eval (.tmp 11) = .slice AL (chL p q).length cL)
    (hdone : ∀ (xs : Nat → Value) (W : World), Below w.heap.size w W → IsV (.bool true) (xs 19) W → Q .normal (putZ a dt28.ns 0 xs) W) :
    (Code.region id (opsOf Try.f10 28) true).wp Try.prog Q a w := by
  refine region_pred (T := dt28.T) 20 (fun _ W => Below w.heap.size w W) (dt28.V p q t) hm (by kernel_rfl) dt28.tab (by kernel_rfl) (by kernel_rfl) (below_drew (Below.refl _ _)) (fun _ h => h) ?hsteps ?hd
  case hd => exact fun xs W hI hV => hdone xs W hI (hV 19 (by decide))
  case hsteps =>
    have hsz : ∀ t, t < 154 → t < a.tmps.size := fun t ht => by rw [hs]; exact ht
    refine ⟨?_, ?_, ?_, ?_, ?_, ?_, ?_, ?_, ?_, ?_, ?_, ?_, ?_, ?_, ?_, ?_, ?_, ?_, ?_, ?_, trivial⟩
    · refine step_op (Op.load 28 (.tmp 3)) (some 135) [] dt28.ns (by kernel_rfl) rfl (by kernel_rfl) (fun o ho hd hw l xs W hF hl hn K hK => ?_)
      have e1 := eval_o (xs := xs) (ns := dt28.ns) h3
      exact load_c (hw _) hd ho b3 e1 (blk_below hb3 hF.1) Try.underlying28 rfl (pol_size kp) (hK.out _ _ (hF.now hF.1 (⟨_, rfl, k28.K_below hF.1 kp⟩)))
    · refine step_op (Op.call { callee := .value (.func 30), args := #[.tmp 135], argTypes := #[28] }) (some 136) [0] dt28.ns (by kernel_rfl) rfl (by kernel_rfl) (fun o ho hd hw l xs W hF hl hn K hK => ?_)
      obtain ⟨C_e0, e_e0, k_e0⟩ := hF.get 0 hn.1
      have e0 : (putZ a dt28.ns 0 xs).eval (.tmp 135) = .agg C_e0 := (eval_z 0 (hsz 135 (by decide))).trans e_e0
      refine goes_ Try.func30 (by kernel_rfl) rfl #[.agg C_e0] (hw _) hd ho (by simp only [List.map_toArray, List.map_cons, List.map_nil, e0]) ?_
      refine (twin_k p _ W k_e0 hsp).mono ?_
      rintro e W' ⟨C1, rfl, hk, hb⟩
      exact ⟨_, rfl, hK.out _ _ (hF.up (hF.1.trans (hb.mono hF.1.size)) (fun j v _ _ h => dt28.mono j h hb) (⟨C1, rfl, hk⟩))⟩
    · refine step_op (Op.load 30 (.tmp 5)) (some 137) [] dt28.ns (by kernel_rfl) rfl (by kernel_rfl) (fun o ho hd hw l xs W hF hl hn K hK => ?_)
      have e1 := eval_o (xs := xs) (ns := dt28.ns) h5
      exact load_c (hw _) hd ho b5 e1 (blk_below hb5 hF.1) Try.underlying30 rfl (by kernel_rfl) (hK.out _ _ (hF.now hF.1 (rfl)))
    · refine step_op (Op.call { callee := .value (.func 45), args := #[.tmp 136, .tmp 137], argTypes := #[28, 30] }) (some 138) [1, 2, 1] dt28.ns (by kernel_rfl) rfl (by kernel_rfl) (fun o ho hd hw l xs W hF hl hn K hK => ?_)
      obtain ⟨C_e0, e_e0, k_e0⟩ := hF.get 1 hn.1
      have e0 : (putZ a dt28.ns 0 xs).eval (.tmp 136) = .agg C_e0 := (eval_z 1 (hsz 136 (by decide))).trans e_e0
      have e1 : (putZ a dt28.ns 0 xs).eval (.tmp 137) = .agg #[.string t.f0, .string t.f1, .string t.f2] := (eval_z 2 (hsz 137 (by decide))).trans (hF.get 2 hn.2.1)
      refine goes_ Try.func45 (by kernel_rfl) rfl #[.agg C_e0, .agg #[.string t.f0, .string t.f1, .string t.f2]] (hw _) hd ho (by simp only [List.map_toArray, List.map_cons, List.map_nil, e0, e1]) ?_
      refine (allows_pol_calls p _ t W k_e0 okp).mono ?_
      rintro e W' ⟨rfl, hb⟩
      exact ⟨_, rfl, hK.out _ _ (hF.up (hF.1.trans (hb.mono hF.1.size)) (fun j v _ _ h => dt28.mono j h hb) (rfl))⟩
    · refine step_op (Op.move (.tmp 9)) (some 139) [] dt28.ns (by kernel_rfl) rfl (by kernel_rfl) (fun o ho hd hw l xs W hF hl hn K hK => ?_)
      have e1 := eval_o (xs := xs) (ns := dt28.ns) h9
      exact value_ (v := .slice AO (relL p).length cO) (hw _) hd (w1 := W) (by simp only [execOp, ho, e1]; go_simp) (hK.out _ _ (hF.now hF.1 (⟨AO, cO, rfl, hlO, Kd.C_below hO hF.1⟩)))
    · refine step_op (Op.load 30 (.tmp 5)) (some 140) [] dt28.ns (by kernel_rfl) rfl (by kernel_rfl) (fun o ho hd hw l xs W hF hl hn K hK => ?_)
      have e1 := eval_o (xs := xs) (ns := dt28.ns) h5
      exact load_c (hw _) hd ho b5 e1 (blk_below hb5 hF.1) Try.underlying30 rfl (by kernel_rfl) (hK.out _ _ (hF.now hF.1 (rfl)))
    · refine step_op (Op.call { callee := .value (.func 44), args := #[.tmp 139, .tmp 140], argTypes := #[26, 30] }) (some 141) [4, 5, 3] dt28.ns (by kernel_rfl) rfl (by kernel_rfl) (fun o ho hd hw l xs W hF hl hn K hK => ?_)
      obtain ⟨A_e0, c_e0, e_e0, l_e0, k_e0⟩ := hF.get 4 hn.1
      have e0 : (putZ a dt28.ns 0 xs).eval (.tmp 139) = .slice A_e0 (relL p).length c_e0 := (eval_z 4 (hsz 139 (by decide))).trans e_e0
      have e1 : (putZ a dt28.ns 0 xs).eval (.tmp 140) = .agg #[.string t.f0, .string t.f1, .string t.f2] := (eval_z 5 (hsz 140 (by decide))).trans (hF.get 5 hn.2.1)
      refine goes_ Try.func44 (by kernel_rfl) rfl #[.slice A_e0 (relL p).length c_e0, .agg #[.string t.f0, .string t.f1, .string t.f2]] (hw _) hd ho (by simp only [List.map_toArray, List.map_cons, List.map_nil, e0, e1]) ?_
      refine (has_k (relL p) t _ _ W k_e0 l_e0 hl9).mono ?_
      rintro e W' ⟨rfl, hb⟩
      exact ⟨_, rfl, hK.out _ _ (hF.up (hF.1.trans (hb.mono hF.1.size)) (fun j v _ _ h => dt28.mono j h hb) (rfl))⟩
    · refine step_op (Op.binOp .eql 4 (.tmp 138) (.tmp 141) 4) (some 142) [3, 6] dt28.ns (by kernel_rfl) rfl (by kernel_rfl) (fun o ho hd hw l xs W hF hl hn K hK => ?_)
      have e0 : (putZ a dt28.ns 0 xs).eval (.tmp 138) = .bool (allowsB p t) := (eval_z 3 (hsz 138 (by decide))).trans (hF.get 3 hn.1)
      have e1 : (putZ a dt28.ns 0 xs).eval (.tmp 141) = .bool (hasB (relL p) t) := (eval_z 6 (hsz 141 (by decide))).trans (hF.get 6 hn.2.1)
      exact value_ (v := .bool true) (hw _) hd (w1 := W) (by simp only [Act.eval, Array.getD_eq_getD_getElem?] at e0 e1; simp only [execOp, ho]; go_simp) (hK.out _ _ (hF.now hF.1 rfl))
    · refine step_op (Op.move (.tmp 142)) (some 143) [7, 6] dt28.ns (by kernel_rfl) rfl (by kernel_rfl) (fun o ho hd hw l xs W hF hl hn K hK => ?_)
      have e1 : (putZ a dt28.ns 0 xs).eval (.tmp 142) = xs 7 := eval_z 7 (hsz 142 (by decide))
      exact value_ (v := xs 7) (hw _) hd (w1 := W) (by simp only [execOp, ho, e1]; go_simp) (hK.out _ _ (hF.now hF.1 (hF.get 7 hn.1)))
    · refine step_og (Op.load 28 (.tmp 3)) (some 144) 8 true 143 [8] dt28.ns (by kernel_rfl) (by kernel_rfl) rfl (by kernel_rfl) (fun o ho hd hw0 l xs W hF hl hn K hK => ?_)
      have eg : (putZ a dt28.ns 0 xs).eval (.tmp 143) = .bool true := (eval_z 8 (hsz 143 (by decide))).trans (hF.get 8 hn.1)
      have hw := hw0 (putZ a dt28.ns 0 xs) (by rw [putZ_size]; exact hsz 143 (by decide)) eg
      have e1 := eval_o (xs := xs) (ns := dt28.ns) h3
      exact load_c hw hd ho b3 e1 (blk_below hb3 hF.1) Try.underlying28 rfl (pol_size kp) (hK.out _ _ (hF.now hF.1 (⟨_, rfl, k28.K_below hF.1 kp⟩)))
    · refine step_og (Op.call { callee := .value (.func 30), args := #[.tmp 144], argTypes := #[28] }) (some 145) 8 true 143 [9, 8, 8] dt28.ns (by kernel_rfl) (by kernel_rfl) rfl (by kernel_rfl) (fun o ho hd hw0 l xs W hF hl hn K hK => ?_)
      have eg : (putZ a dt28.ns 0 xs).eval (.tmp 143) = .bool true := (eval_z 8 (hsz 143 (by decide))).trans (hF.get 8 hn.2.1)
      have hw := hw0 (putZ a dt28.ns 0 xs) (by rw [putZ_size]; exact hsz 143 (by decide)) eg
      obtain ⟨C_e0, e_e0, k_e0⟩ := hF.get 9 hn.1
      have e0 : (putZ a dt28.ns 0 xs).eval (.tmp 144) = .agg C_e0 := (eval_z 9 (hsz 144 (by decide))).trans e_e0
      refine goes_ Try.func30 (by kernel_rfl) rfl #[.agg C_e0] hw hd ho (by simp only [List.map_toArray, List.map_cons, List.map_nil, e0]) ?_
      refine (twin_k p _ W k_e0 hsp).mono ?_
      rintro e W' ⟨C1, rfl, hk, hb⟩
      exact ⟨_, rfl, hK.out _ _ (hF.up (hF.1.trans (hb.mono hF.1.size)) (fun j v _ _ h => dt28.mono j h hb) (⟨C1, rfl, hk⟩))⟩
    · refine step_og (Op.load 28 (.tmp 4)) (some 146) 8 true 143 [8] dt28.ns (by kernel_rfl) (by kernel_rfl) rfl (by kernel_rfl) (fun o ho hd hw0 l xs W hF hl hn K hK => ?_)
      have eg : (putZ a dt28.ns 0 xs).eval (.tmp 143) = .bool true := (eval_z 8 (hsz 143 (by decide))).trans (hF.get 8 hn.1)
      have hw := hw0 (putZ a dt28.ns 0 xs) (by rw [putZ_size]; exact hsz 143 (by decide)) eg
      have e1 := eval_o (xs := xs) (ns := dt28.ns) h4
      exact load_c hw hd ho b4 e1 (blk_below hb4 hF.1) Try.underlying28 rfl (pol_size kq) (hK.out _ _ (hF.now hF.1 (⟨_, rfl, k28.K_below hF.1 kq⟩)))
    · refine step_og (Op.call { callee := .value (.func 30), args := #[.tmp 146], argTypes := #[28] }) (some 147) 8 true 143 [11, 10, 8] dt28.ns (by kernel_rfl) (by kernel_rfl) rfl (by kernel_rfl) (fun o ho hd hw0 l xs W hF hl hn K hK => ?_)
      have eg : (putZ a dt28.ns 0 xs).eval (.tmp 143) = .bool true := (eval_z 8 (hsz 143 (by decide))).trans (hF.get 8 hn.2.2.1)
      have hw := hw0 (putZ a dt28.ns 0 xs) (by rw [putZ_size]; exact hsz 143 (by decide)) eg
      obtain ⟨C_e0, e_e0, k_e0⟩ := hF.get 11 hn.1
      have e0 : (putZ a dt28.ns 0 xs).eval (.tmp 146) = .agg C_e0 := (eval_z 11 (hsz 146 (by decide))).trans e_e0
      refine goes_ Try.func30 (by kernel_rfl) rfl #[.agg C_e0] hw hd ho (by simp only [List.map_toArray, List.map_cons, List.map_nil, e0]) ?_
      refine (twin_k q _ W k_e0 hsq).mono ?_
      rintro e W' ⟨C1, rfl, hk, hb⟩
      exact ⟨_, rfl, hK.out _ _ (hF.up (hF.1.trans (hb.mono hF.1.size)) (fun j v _ _ h => dt28.mono j h hb) (⟨C1, rfl, hk⟩))⟩
    · refine step_og (Op.call { callee := .value (.func 37), args := #[.tmp 145, .tmp 147], argTypes := #[28, 28] }) (some 148) 8 true 143 [10, 12, 12, 8] dt28.ns (by kernel_rfl) (by kernel_rfl) rfl (by kernel_rfl) (fun o ho hd hw0 l xs W hF hl hn K hK => ?_)
      have eg : (putZ a dt28.ns 0 xs).eval (.tmp 143) = .bool true := (eval_z 8 (hsz 143 (by decide))).trans (hF.get 8 hn.2.2.2.1)
      have hw := hw0 (putZ a dt28.ns 0 xs) (by rw [putZ_size]; exact hsz 143 (by decide)) eg
      obtain ⟨C_e0, e_e0, k_e0⟩ := hF.get 10 hn.1
      have e0 : (putZ a dt28.ns 0 xs).eval (.tmp 145) = .agg C_e0 := (eval_z 10 (hsz 145 (by decide))).trans e_e0
      obtain ⟨C_e1, e_e1, k_e1⟩ := hF.get 12 hn.2.1
      have e1 : (putZ a dt28.ns 0 xs).eval (.tmp 147) = .agg C_e1 := (eval_z 12 (hsz 147 (by decide))).trans e_e1
      refine goes_ Try.func37 (by kernel_rfl) rfl #[.agg C_e0, .agg C_e1] hw hd ho (by simp only [List.map_toArray, List.map_cons, List.map_nil, e0, e1]) ?_
      refine (same_k2 p q _ _ W k_e0 k_e1 hdpq).mono ?_
      rintro e W' ⟨rfl, hb⟩
      exact ⟨_, rfl, hK.out _ _ (hF.up (hF.1.trans (hb.mono hF.1.size)) (fun j v _ _ h => dt28.mono j h hb) (rfl))⟩
    · refine step_og (Op.move (.tmp 11)) (some 149) 8 true 143 [8] dt28.ns (by kernel_rfl) (by kernel_rfl) rfl (by kernel_rfl) (fun o ho hd hw0 l xs W hF hl hn K hK => ?_)
      have eg : (putZ a dt28.ns 0 xs).eval (.tmp 143) = .bool true := (eval_z 8 (hsz 143 (by decide))).trans (hF.get 8 hn.1)
      have hw := hw0 (putZ a dt28.ns 0 xs) (by rw [putZ_size]; exact hsz 143 (by decide)) eg
      have e1 := eval_o (xs := xs) (ns := dt28.ns) h11
      exact value_ (v := .slice AL (chL p q).length cL) hw hd (w1 := W) (by simp only [execOp, ho, e1]; go_simp) (hK.out _ _ (hF.now hF.1 (⟨AL, cL, rfl, hlL, Kd.C_below hL hF.1⟩)))
    · refine step_og (Op.call { callee := .builtin .len, args := #[.tmp 149], argTypes := #[47] }) (some 150) 8 true 143 [14, 8] dt28.ns (by kernel_rfl) (by kernel_rfl) rfl (by kernel_rfl) (fun o ho hd hw0 l xs W hF hl hn K hK => ?_)
      have eg : (putZ a dt28.ns 0 xs).eval (.tmp 143) = .bool true := (eval_z 8 (hsz 143 (by decide))).trans (hF.get 8 hn.2.1)
      have hw := hw0 (putZ a dt28.ns 0 xs) (by rw [putZ_size]; exact hsz 143 (by decide)) eg
      obtain ⟨A_e0, c_e0, e_e0, l_e0, k_e0⟩ := hF.get 14 hn.1
      have e0 : (putZ a dt28.ns 0 xs).eval (.tmp 149) = .slice A_e0 (chL p q).length c_e0 := (eval_z 14 (hsz 149 (by decide))).trans e_e0
      exact value_ (v := .int .i64 ((chL p q).length : Nat)) hw hd (w1 := W) (by simp only [Act.eval, Array.getD_eq_getD_getElem?] at e0; simp only [execOp, ho]; go_simp) (hK.out _ _ (hF.now hF.1 rfl))
    · refine step_og (Op.binOp .eql 3 (.tmp 150) (.const (.int .i64 0)) 3) (some 151) 8 true 143 [15, 8] dt28.ns (by kernel_rfl) (by kernel_rfl) rfl (by kernel_rfl) (fun o ho hd hw0 l xs W hF hl hn K hK => ?_)
      have eg : (putZ a dt28.ns 0 xs).eval (.tmp 143) = .bool true := (eval_z 8 (hsz 143 (by decide))).trans (hF.get 8 hn.2.1)
      have hw := hw0 (putZ a dt28.ns 0 xs) (by rw [putZ_size]; exact hsz 143 (by decide)) eg
      have e0 : (putZ a dt28.ns 0 xs).eval (.tmp 150) = .int .i64 ((chL p q).length : Nat) := (eval_z 15 (hsz 150 (by decide))).trans (hF.get 15 hn.1)
      exact value_ (v := .bool (sameB p q)) hw hd (w1 := W) (by simp only [Act.eval, Array.getD_eq_getD_getElem?] at e0; simp only [execOp, ho]; go_simp) (hK.out _ _ (hF.now hF.1 rfl))
    · refine step_og (Op.binOp .eql 4 (.tmp 148) (.tmp 151) 4) (some 152) 8 true 143 [13, 16, 8] dt28.ns (by kernel_rfl) (by kernel_rfl) rfl (by kernel_rfl) (fun o ho hd hw0 l xs W hF hl hn K hK => ?_)
      have eg : (putZ a dt28.ns 0 xs).eval (.tmp 143) = .bool true := (eval_z 8 (hsz 143 (by decide))).trans (hF.get 8 hn.2.2.1)
      have hw := hw0 (putZ a dt28.ns 0 xs) (by rw [putZ_size]; exact hsz 143 (by decide)) eg
      have e0 : (putZ a dt28.ns 0 xs).eval (.tmp 148) = .bool (sameB p q) := (eval_z 13 (hsz 148 (by decide))).trans (hF.get 13 hn.1)
      have e1 : (putZ a dt28.ns 0 xs).eval (.tmp 151) = .bool (sameB p q) := (eval_z 16 (hsz 151 (by decide))).trans (hF.get 16 hn.2.1)
      exact value_ (v := .bool true) hw hd (w1 := W) (by simp only [Act.eval, Array.getD_eq_getD_getElem?] at e0 e1; simp only [execOp, ho]; go_simp) (hK.out _ _ (hF.now hF.1 rfl))
    · refine step_op (Op.pick (.tmp 143) (.tmp 152) (.const (.bool false))) (some 153) [8, 17] dt28.ns (by kernel_rfl) rfl (by kernel_rfl) (fun o ho hd hw l xs W hF hl hn K hK => ?_)
      have e0 : (putZ a dt28.ns 0 xs).eval (.tmp 143) = .bool true := (eval_z 8 (hsz 143 (by decide))).trans (hF.get 8 hn.1)
      have e1 : (putZ a dt28.ns 0 xs).eval (.tmp 152) = .bool true := (eval_z 17 (hsz 152 (by decide))).trans (hF.get 17 hn.2.1)
      exact value_ (v := .bool true) (hw _) hd (w1 := W) (by simp only [Act.eval, Array.getD_eq_getD_getElem?] at e0 e1; simp only [execOp, ho]; go_simp) (hK.out _ _ (hF.now hF.1 rfl))
    · refine step_op (Op.assign (.tmp 153)) (some 6) [18, 13, 0, 1, 2, 3, 4, 5, 6, 7, 8, 9, 10, 11, 12, 13, 14, 15, 16, 17, 18] dt28.ns (by kernel_rfl) rfl (by kernel_rfl) (fun o ho hd hw l xs W hF hl hn K hK => ?_)
      have e1 : (putZ a dt28.ns 0 xs).eval (.tmp 153) = xs 18 := eval_z 18 (hsz 153 (by decide))
      exact value_ (v := xs 18) (hw _) hd (w1 := W) (by simp only [execOp, ho, e1]; go_simp) (hK.out _ _ (hF.now hF.1 (hF.get 18 hn.1)))
theorem has_allows (p : Pol) (t : Tri) : hasB (relL p) t = allowsB p t := by
  rw [Bool.eq_iff_iff, hasB_iff, mem_relL]
/-- What may be told of one triple. -/
theorem told_cases (p q : Pol) (t : Tri) : ∃ (b1 b2 : Bool) (n1 n2 : Nat), hasB (relL p) t = b1 ∧ hasB (relL q) t = b2 ∧ toldN (chL p q) ⟨t, false⟩ = n1 ∧ toldN (chL p q) ⟨t, true⟩ = n2 ∧
    ((b1 = true ∧ b2 = true ∧ n1 = 0 ∧ n2 = 0) ∨ (b1 = true ∧ b2 = false ∧ n1 = 1 ∧ n2 = 0) ∨ (b1 = false ∧ b2 = true ∧ n1 = 0 ∧ n2 = 1) ∨ (b1 = false ∧ b2 = false ∧ n1 = 0 ∧ n2 = 0)) := by
  refine ⟨_, _, _, _, rfl, rfl, rfl, rfl, ?_⟩
  have hn := chL_nodup p q
  have f1 : ∀ l : List Tri, hasB l t = false → t ∉ l := fun l h hm => by rw [hasB_iff.2 hm] at h; cases h
  cases h1 : hasB (relL p) t <;> cases h2 : hasB (relL q) t
  · refine .inr (.inr (.inr ⟨rfl, rfl, told_none fun h => ?_, told_none fun h => ?_⟩)) <;> rcases mem_chL.1 h with ⟨_, h3, _⟩ | ⟨_, h3, _⟩
    · exact f1 _ h1 h3
    · exact f1 _ h2 h3
    · exact f1 _ h1 h3
    · exact f1 _ h2 h3
  · refine .inr (.inr (.inl ⟨rfl, rfl, told_none fun h => ?_, told_one hn (mem_chL.2 (.inr ⟨rfl, hasB_iff.1 h2, f1 _ h1⟩))⟩))
    rcases mem_chL.1 h with ⟨_, h3, _⟩ | ⟨h4, _, _⟩
    · exact f1 _ h1 h3
    · cases h4
  · refine .inr (.inl ⟨rfl, rfl, told_one hn (mem_chL.2 (.inl ⟨rfl, hasB_iff.1 h1, f1 _ h2⟩)), told_none fun h => ?_⟩)
    rcases mem_chL.1 h with ⟨h4, _, _⟩ | ⟨_, h3, _⟩
    · cases h4
    · exact f1 _ h2 h3
  · refine .inl ⟨rfl, rfl, told_none fun h => ?_, told_none fun h => ?_⟩ <;> rcases mem_chL.1 h with ⟨_, _, h3⟩ | ⟨_, _, h3⟩
    · exact h3 (hasB_iff.1 h2)
    · exact h3 (hasB_iff.1 h1)
    · exact h3 (hasB_iff.1 h2)
    · exact h3 (hasB_iff.1 h1)
theorem lit_one {W : World} {B : Nat} (t : Tri) (hB : B ≤ W.heap.size) : Kd.R k30 30 (W.alloc (.cells #[.string t.f0, .string t.f1, .string t.f2] 30)) B (fun _ => True) (.slice (some ⟨W.heap.size, 0, none⟩) 1 1) [t] :=
  ⟨fun _ _ => trivial, [.string t.f0, .string t.f1, .string t.f2], ⟨rfl, .inr ⟨W.heap.size, 1, _, rfl, hB, blk_new W _, Nat.le_refl _, by decide, rfl, rfl⟩⟩, rfl, fun j p hj => by
    match j, hj with
    | 0, hj => cases hj; exact k30_mkM _ _ _ t⟩
theorem told_kn (l : List Chg) (c : Chg) (Aa : Option Addr) (n cp : Nat) (w : World) (hn : n = l.length) (hC : Kd.C k53 w Aa n l) (hc : n ≤ cp) (hl : n ≤ 1048576) :
    Calls Try.prog 40 #[.slice Aa n cp, .agg #[.string c.f0.f0, .string c.f0.f1, .string c.f0.f2, .bool c.f1]] w fun e w' => e = .returned (.int .i64 (toldN l c : Nat)) ∧ Below w.heap.size w w' := by
  subst hn
  exact told_k l c Aa cp w hC hc hl
end Go.Proofs.Yteefneemmdfncaa.M
