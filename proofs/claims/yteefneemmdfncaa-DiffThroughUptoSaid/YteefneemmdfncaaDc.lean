import Derived.Test.YteefneemmdfncaaAl
import Derived.Test.YteefneemmdfncaaWAlo
/- DiffBack's regions that draw their order. Conditions: each theorem's own. -/
namespace Go.Proofs.Yteefneemmdfncaa.M
open Go.RowKit Go.Proofs.YteefneemmdfncaaW.Raw Go.Proofs.YteefneemmdfncaaW.PrintWords Go.Proofs.YteefneemmdfncaaW.PrintLast Go.Proofs.YteefneemmdfncaaW.PrintAll Go.Proofs.Yteefneemmdfncaa.F
set_option linter.unusedVariables false
set_option linter.unusedSimpArgs false
/-- A policy that reads as it must. -/
def PolV (p : Pol) (v : Value) (W : World) : Prop := ∃ C : Array Value, v = .agg C ∧ k28.K W p C.toList
def IsV (c v : Value) (_ : World) : Prop := v = c
def ChV (l : List Chg) (v : Value) (W : World) : Prop := ∃ A c, v = .slice A l.length c ∧ l.length ≤ c ∧ Kd.C k53 W A l.length l
def TrV (l : List Tri) (v : Value) (W : World) : Prop := ∃ A c, v = .slice A l.length c ∧ l.length ≤ c ∧ Kd.C k30 W A l.length l
theorem PolV.mono {p : Pol} {v : Value} {W W' : World} (h : PolV p v W) (hb : Below W.heap.size W W') : PolV p v W' := by
  obtain ⟨C, e, h⟩ := h
  exact ⟨C, e, k28.K_below hb h⟩
theorem ChV.mono {l : List Chg} {v : Value} {W W' : World} (h : ChV l v W) (hb : Below W.heap.size W W') : ChV l v W' := by
  obtain ⟨A, c, e, h1, h⟩ := h
  exact ⟨A, c, e, h1, Kd.C_below h hb⟩
theorem TrV.mono {l : List Tri} {v : Value} {W W' : World} (h : TrV l v W) (hb : Below W.heap.size W W') : TrV l v W' := by
  obtain ⟨A, c, e, h1, h⟩ := h
  exact ⟨A, c, e, h1, Kd.C_below h hb⟩
theorem ChV_of {l : List Chg} {v : Value} {W : World} {B : Nat} {ok : Nat → Prop} (h : Kd.R k53 53 W B ok v l) : ChV l v W := by
  obtain ⟨A, c, e, h1, h2⟩ := Kd.R_reads h
  exact ⟨A, c, e, h1, h2⟩
theorem list_v (p q : Pol) (C0 D0 : Array Value) (w : World) (hp : k28.K w p C0.toList) (hq : k28.K w q D0.toList) (h : okD p q = true) :
    Calls Try.prog 35 #[.agg C0, .agg D0] w fun e W => ∃ v, e = .returned v ∧ ChV (chL p q) v W ∧ Below w.heap.size w W :=
  (list_k p q C0 D0 w hp hq h).mono fun e W ⟨v, h1, h2, h3⟩ => ⟨v, h1, ChV_of h2, h3⟩
theorem chL_len (p q : Pol) : (chL p q).length ≤ (relL p).length + (relL q).length := by
  unfold chL changeL goneL
  rw [List.length_map, List.length_append, List.length_map, List.length_map]
  exact Nat.add_le_add (List.length_filter_le _ _) (List.length_filter_le _ _)

abbrev db5.ns : List (Option Tmp) := [some 18, some 19, some 20, some 21, some 22, some 7]
def db5.T : Bool × List (List Nat × List Nat) := (true, [([], []), ([0], [0]), ([], []), ([2, 1], [2]), ([1, 3, 3], [1, 3]), ([4, 4, 0, 1, 2, 3, 4], [4])])
theorem db5.tab : rtab .any (opsOf Try.f8 5) = db5.T := by kernel_rfl
def db5.V (p q : Pol) : Nat → Value → World → Prop
  | 0 => PolV p
  | 1 => PolV p
  | 2 => PolV q
  | 3 => PolV q
  | 4 => ChV (chL p q)
  | 5 => ChV (chL p q)
  | _ => fun _ _ => True
theorem db5.mono {p q : Pol} : ∀ (j : Nat) {v : Value} {W W' : World}, db5.V p q j v W → Below W.heap.size W W' → db5.V p q j v W'
  | 0, _, _, _, h, hb => PolV.mono h hb
  | 1, _, _, _, h, hb => PolV.mono h hb
  | 2, _, _, _, h, hb => PolV.mono h hb
  | 3, _, _, _, h, hb => PolV.mono h hb
  | 4, _, _, _, h, hb => ChV.mono h hb
  | 5, _, _, _, h, hb => ChV.mono h hb
  | n + 6, _, _, _, _, _ => trivial
set_option maxRecDepth 100000 in
set_option maxHeartbeats 2000000 in
theorem db5.region {Q : Exit → Act → World → Prop} {id : Nat} {a : Act} {w : World} (p q : Pol) {b2 b3 : Nat} (C0 D0 : Array Value) (kp : k28.K w p C0.toList) (kq : k28.K w q D0.toList) (hsp : Sz p) (hsq : Sz q) (hdpq : okD p q = true) (hdqp : okD q p = true) (hm : Try.prog.follows .mixedOrders = true) (hs : a.tmps.size = 71) (h2 : a.eval (.tmp 2) = .pointer (some ⟨b2, 0, none⟩)) (hb2 : w.heap[b2]? = some (Obj.cells C0 28 (0, 0)))  (h3 : a.eval (.tmp 3) = .pointer (some ⟨b3, 0, none⟩)) (hb3 : w.heap[b3]? = some (Obj.cells D0 28 (0, 0)))  
    (hdone : ∀ (xs : Nat → Value) (W : World), Below w.heap.size w W → ChV (chL p q) (xs 5) W → Q .normal (putZ a db5.ns 0 xs) W) :
    (Code.region id (opsOf Try.f8 5) true).wp Try.prog Q a w := by
  refine region_pred (T := db5.T) 6 (fun _ W => Below w.heap.size w W) (db5.V p q) hm (by kernel_rfl) db5.tab (by kernel_rfl) (by kernel_rfl) (below_drew (Below.refl _ _)) (fun _ h => h) ?hsteps ?hd
  case hd => exact fun xs W hI hV => hdone xs W hI (hV 5 (by decide))
  case hsteps =>
    have hsz : ∀ t, t < 71 → t < a.tmps.size := fun t ht => by rw [hs]; exact ht
    refine ⟨?_, ?_, ?_, ?_, ?_, ?_, trivial⟩
    · refine step_op (Op.load 28 (.tmp 2)) (some 18) [] db5.ns (by kernel_rfl) rfl (by kernel_rfl) (fun o ho hd hw l xs W hF hl hn K hK => ?_)
      have e1 := eval_o (xs := xs) (ns := db5.ns) h2
      exact load_c (hw _) hd ho b2 e1 (blk_below hb2 hF.1) Try.underlying28 rfl (pol_size kp) (hK.out _ _ (hF.now hF.1 (⟨_, rfl, k28.K_below hF.1 kp⟩)))
    · refine step_op (Op.call { callee := .value (.func 30), args := #[.tmp 18], argTypes := #[28] }) (some 19) [0] db5.ns (by kernel_rfl) rfl (by kernel_rfl) (fun o ho hd hw l xs W hF hl hn K hK => ?_)
      obtain ⟨C_e0, e_e0, k_e0⟩ := hF.get 0 hn.1
      have e0 : (putZ a db5.ns 0 xs).eval (.tmp 18) = .agg C_e0 := (eval_z 0 (hsz 18 (by decide))).trans e_e0
      refine goes_ Try.func30 (by kernel_rfl) rfl #[.agg C_e0] (hw _) hd ho (by simp only [List.map_toArray, List.map_cons, List.map_nil, e0]) ?_
      refine (twin_k p _ W k_e0 hsp).mono ?_
      rintro e W' ⟨C1, rfl, hk, hb⟩
      exact ⟨_, rfl, hK.out _ _ (hF.up (hF.1.trans (hb.mono hF.1.size)) (fun j v _ _ h => db5.mono j h hb) (⟨C1, rfl, hk⟩))⟩
    · refine step_op (Op.load 28 (.tmp 3)) (some 20) [] db5.ns (by kernel_rfl) rfl (by kernel_rfl) (fun o ho hd hw l xs W hF hl hn K hK => ?_)
      have e1 := eval_o (xs := xs) (ns := db5.ns) h3
      exact load_c (hw _) hd ho b3 e1 (blk_below hb3 hF.1) Try.underlying28 rfl (pol_size kq) (hK.out _ _ (hF.now hF.1 (⟨_, rfl, k28.K_below hF.1 kq⟩)))
    · refine step_op (Op.call { callee := .value (.func 30), args := #[.tmp 20], argTypes := #[28] }) (some 21) [2, 1] db5.ns (by kernel_rfl) rfl (by kernel_rfl) (fun o ho hd hw l xs W hF hl hn K hK => ?_)
      obtain ⟨C_e0, e_e0, k_e0⟩ := hF.get 2 hn.1
      have e0 : (putZ a db5.ns 0 xs).eval (.tmp 20) = .agg C_e0 := (eval_z 2 (hsz 20 (by decide))).trans e_e0
      refine goes_ Try.func30 (by kernel_rfl) rfl #[.agg C_e0] (hw _) hd ho (by simp only [List.map_toArray, List.map_cons, List.map_nil, e0]) ?_
      refine (twin_k q _ W k_e0 hsq).mono ?_
      rintro e W' ⟨C1, rfl, hk, hb⟩
      exact ⟨_, rfl, hK.out _ _ (hF.up (hF.1.trans (hb.mono hF.1.size)) (fun j v _ _ h => db5.mono j h hb) (⟨C1, rfl, hk⟩))⟩
    · refine step_op (Op.call { callee := .value (.func 35), args := #[.tmp 19, .tmp 21], argTypes := #[28, 28] }) (some 22) [1, 3, 3] db5.ns (by kernel_rfl) rfl (by kernel_rfl) (fun o ho hd hw l xs W hF hl hn K hK => ?_)
      obtain ⟨C_e0, e_e0, k_e0⟩ := hF.get 1 hn.1
      have e0 : (putZ a db5.ns 0 xs).eval (.tmp 19) = .agg C_e0 := (eval_z 1 (hsz 19 (by decide))).trans e_e0
      obtain ⟨C_e1, e_e1, k_e1⟩ := hF.get 3 hn.2.1
      have e1 : (putZ a db5.ns 0 xs).eval (.tmp 21) = .agg C_e1 := (eval_z 3 (hsz 21 (by decide))).trans e_e1
      refine goes_ Try.func35 (by kernel_rfl) rfl #[.agg C_e0, .agg C_e1] (hw _) hd ho (by simp only [List.map_toArray, List.map_cons, List.map_nil, e0, e1]) ?_
      refine (list_v p q _ _ W k_e0 k_e1 hdpq).mono ?_
      rintro e W' ⟨v, rfl, hv, hb⟩
      exact ⟨_, rfl, hK.out _ _ (hF.up (hF.1.trans (hb.mono hF.1.size)) (fun j v _ _ h => db5.mono j h hb) (hv))⟩
    · refine step_op (Op.assign (.tmp 22)) (some 7) [4, 4, 0, 1, 2, 3, 4] db5.ns (by kernel_rfl) rfl (by kernel_rfl) (fun o ho hd hw l xs W hF hl hn K hK => ?_)
      have e1 : (putZ a db5.ns 0 xs).eval (.tmp 22) = xs 4 := eval_z 4 (hsz 22 (by decide))
      exact value_ (v := xs 4) (hw _) hd (w1 := W) (by simp only [execOp, ho, e1]; go_simp) (hK.out _ _ (hF.now hF.1 (hF.get 4 hn.1)))
abbrev db6.ns : List (Option Tmp) := [some 23, some 24, some 25, some 26, some 27, some 8]
def db6.T : Bool × List (List Nat × List Nat) := (true, [([], []), ([0], [0]), ([], []), ([2, 1], [2]), ([1, 3, 3], [1, 3]), ([4, 4, 0, 1, 2, 3, 4], [4])])
theorem db6.tab : rtab .any (opsOf Try.f8 6) = db6.T := by kernel_rfl
def db6.V (p q : Pol) : Nat → Value → World → Prop
  | 0 => PolV q
  | 1 => PolV q
  | 2 => PolV p
  | 3 => PolV p
  | 4 => ChV (chL q p)
  | 5 => ChV (chL q p)
  | _ => fun _ _ => True
theorem db6.mono {p q : Pol} : ∀ (j : Nat) {v : Value} {W W' : World}, db6.V p q j v W → Below W.heap.size W W' → db6.V p q j v W'
  | 0, _, _, _, h, hb => PolV.mono h hb
  | 1, _, _, _, h, hb => PolV.mono h hb
  | 2, _, _, _, h, hb => PolV.mono h hb
  | 3, _, _, _, h, hb => PolV.mono h hb
  | 4, _, _, _, h, hb => ChV.mono h hb
  | 5, _, _, _, h, hb => ChV.mono h hb
  | n + 6, _, _, _, _, _ => trivial
set_option maxRecDepth 100000 in
set_option maxHeartbeats 2000000 in
theorem db6.region {Q : Exit → Act → World → Prop} {id : Nat} {a : Act} {w : World} (p q : Pol) {b2 b3 : Nat} (C0 D0 : Array Value) (kp : k28.K w p C0.toList) (kq : k28.K w q D0.toList) (hsp : Sz p) (hsq : Sz q) (hdpq : okD p q = true) (hdqp : okD q p = true) (hm : Try.prog.follows .mixedOrders = true) (hs : a.tmps.size = 71) (h2 : a.eval (.tmp 2) = .pointer (some ⟨b2, 0, none⟩)) (hb2 : w.heap[b2]? = some (Obj.cells C0 28 (0, 0)))  (h3 : a.eval (.tmp 3) = .pointer (some ⟨b3, 0, none⟩)) (hb3 : w.heap[b3]? = some (Obj.cells D0 28 (0, 0)))  
    (hdone : ∀ (xs : Nat → Value) (W : World), Below w.heap.size w W → ChV (chL q p) (xs 5) W → Q .normal (putZ a db6.ns 0 xs) W) :
    (Code.region id (opsOf Try.f8 6) true).wp Try.prog Q a w := by
  refine region_pred (T := db6.T) 6 (fun _ W => Below w.heap.size w W) (db6.V p q) hm (by kernel_rfl) db6.tab (by kernel_rfl) (by kernel_rfl) (below_drew (Below.refl _ _)) (fun _ h => h) ?hsteps ?hd
  case hd => exact fun xs W hI hV => hdone xs W hI (hV 5 (by decide))
  case hsteps =>
    have hsz : ∀ t, t < 71 → t < a.tmps.size := fun t ht => by rw [hs]; exact ht
    refine ⟨?_, ?_, ?_, ?_, ?_, ?_, trivial⟩
    · refine step_op (Op.load 28 (.tmp 3)) (some 23) [] db6.ns (by kernel_rfl) rfl (by kernel_rfl) (fun o ho hd hw l xs W hF hl hn K hK => ?_)
      have e1 := eval_o (xs := xs) (ns := db6.ns) h3
      exact load_c (hw _) hd ho b3 e1 (blk_below hb3 hF.1) Try.underlying28 rfl (pol_size kq) (hK.out _ _ (hF.now hF.1 (⟨_, rfl, k28.K_below hF.1 kq⟩)))
    · refine step_op (Op.call { callee := .value (.func 30), args := #[.tmp 23], argTypes := #[28] }) (some 24) [0] db6.ns (by kernel_rfl) rfl (by kernel_rfl) (fun o ho hd hw l xs W hF hl hn K hK => ?_)
      obtain ⟨C_e0, e_e0, k_e0⟩ := hF.get 0 hn.1
      have e0 : (putZ a db6.ns 0 xs).eval (.tmp 23) = .agg C_e0 := (eval_z 0 (hsz 23 (by decide))).trans e_e0
      refine goes_ Try.func30 (by kernel_rfl) rfl #[.agg C_e0] (hw _) hd ho (by simp only [List.map_toArray, List.map_cons, List.map_nil, e0]) ?_
      refine (twin_k q _ W k_e0 hsq).mono ?_
      rintro e W' ⟨C1, rfl, hk, hb⟩
      exact ⟨_, rfl, hK.out _ _ (hF.up (hF.1.trans (hb.mono hF.1.size)) (fun j v _ _ h => db6.mono j h hb) (⟨C1, rfl, hk⟩))⟩
    · refine step_op (Op.load 28 (.tmp 2)) (some 25) [] db6.ns (by kernel_rfl) rfl (by kernel_rfl) (fun o ho hd hw l xs W hF hl hn K hK => ?_)
      have e1 := eval_o (xs := xs) (ns := db6.ns) h2
      exact load_c (hw _) hd ho b2 e1 (blk_below hb2 hF.1) Try.underlying28 rfl (pol_size kp) (hK.out _ _ (hF.now hF.1 (⟨_, rfl, k28.K_below hF.1 kp⟩)))
    · refine step_op (Op.call { callee := .value (.func 30), args := #[.tmp 25], argTypes := #[28] }) (some 26) [2, 1] db6.ns (by kernel_rfl) rfl (by kernel_rfl) (fun o ho hd hw l xs W hF hl hn K hK => ?_)
      obtain ⟨C_e0, e_e0, k_e0⟩ := hF.get 2 hn.1
      have e0 : (putZ a db6.ns 0 xs).eval (.tmp 25) = .agg C_e0 := (eval_z 2 (hsz 25 (by decide))).trans e_e0
      refine goes_ Try.func30 (by kernel_rfl) rfl #[.agg C_e0] (hw _) hd ho (by simp only [List.map_toArray, List.map_cons, List.map_nil, e0]) ?_
      refine (twin_k p _ W k_e0 hsp).mono ?_
      rintro e W' ⟨C1, rfl, hk, hb⟩
      exact ⟨_, rfl, hK.out _ _ (hF.up (hF.1.trans (hb.mono hF.1.size)) (fun j v _ _ h => db6.mono j h hb) (⟨C1, rfl, hk⟩))⟩
    · refine step_op (Op.call { callee := .value (.func 35), args := #[.tmp 24, .tmp 26], argTypes := #[28, 28] }) (some 27) [1, 3, 3] db6.ns (by kernel_rfl) rfl (by kernel_rfl) (fun o ho hd hw l xs W hF hl hn K hK => ?_)
      obtain ⟨C_e0, e_e0, k_e0⟩ := hF.get 1 hn.1
      have e0 : (putZ a db6.ns 0 xs).eval (.tmp 24) = .agg C_e0 := (eval_z 1 (hsz 24 (by decide))).trans e_e0
      obtain ⟨C_e1, e_e1, k_e1⟩ := hF.get 3 hn.2.1
      have e1 : (putZ a db6.ns 0 xs).eval (.tmp 26) = .agg C_e1 := (eval_z 3 (hsz 26 (by decide))).trans e_e1
      refine goes_ Try.func35 (by kernel_rfl) rfl #[.agg C_e0, .agg C_e1] (hw _) hd ho (by simp only [List.map_toArray, List.map_cons, List.map_nil, e0, e1]) ?_
      refine (list_v q p _ _ W k_e0 k_e1 hdqp).mono ?_
      rintro e W' ⟨v, rfl, hv, hb⟩
      exact ⟨_, rfl, hK.out _ _ (hF.up (hF.1.trans (hb.mono hF.1.size)) (fun j v _ _ h => db6.mono j h hb) (hv))⟩
    · refine step_op (Op.assign (.tmp 27)) (some 8) [4, 4, 0, 1, 2, 3, 4] db6.ns (by kernel_rfl) rfl (by kernel_rfl) (fun o ho hd hw l xs W hF hl hn K hK => ?_)
      have e1 : (putZ a db6.ns 0 xs).eval (.tmp 27) = xs 4 := eval_z 4 (hsz 27 (by decide))
      exact value_ (v := xs 4) (hw _) hd (w1 := W) (by simp only [execOp, ho, e1]; go_simp) (hK.out _ _ (hF.now hF.1 (hF.get 4 hn.1)))
abbrev db7.ns : List (Option Tmp) := [some 28, some 29, some 30, some 31, some 32, some 33, some 34, some 35, some 36, some 37, some 38, some 39, some 40, some 41, some 42, some 43, some 44, some 45, some 46, some 47, some 48, some 49]
def db7.T : Bool × List (List Nat × List Nat) := (true, [([], []), ([0], [0]), ([1], [1]), ([2], [2]), ([3, 2], [2, 3]), ([2], [2]), ([5, 2], [2, 5]), ([4, 6, 2], [2, 4, 6]), ([2, 7], [2, 7]), ([8, 2], [8]), ([9], [9]), ([10, 9, 9], [9, 10]), ([9], [9]), ([12, 11, 9], [9, 12]), ([11, 13, 13, 9], [9, 11, 13]), ([9], [9]), ([15, 14, 9], [9, 15]), ([9], [9]), ([17, 16, 9], [9, 17]), ([16, 18, 18, 9], [9, 16, 18]), ([14, 19, 9], [9, 14, 19]), ([9, 20], [9, 20])])
theorem db7.tab : rtab .any (opsOf Try.f8 7) = db7.T := by kernel_rfl
def db7.V (p q : Pol) : Nat → Value → World → Prop
  | 0 => IsV (.bool true)
  | 1 => IsV (.bool false)
  | 2 => IsV (.bool false)
  | 3 => ChV (chL p q)
  | 4 => IsV (.int .i64 ((chL p q).length : Nat))
  | 5 => ChV (chL q p)
  | 6 => IsV (.int .i64 ((chL q p).length : Nat))
  | 7 => IsV (.bool false)
  | 8 => IsV (.bool false)
  | 9 => IsV (.bool false)
  | 10 => PolV p
  | 11 => PolV p
  | 12 => PolV q
  | 13 => PolV q
  | 14 => IsV (.bool (sameB p q))
  | 15 => PolV q
  | 16 => PolV q
  | 17 => PolV p
  | 18 => PolV p
  | 19 => IsV (.bool (sameB q p))
  | 20 => IsV (.bool false)
  | 21 => IsV (.bool false)
  | _ => fun _ _ => True
theorem db7.mono {p q : Pol} : ∀ (j : Nat) {v : Value} {W W' : World}, db7.V p q j v W → Below W.heap.size W W' → db7.V p q j v W'
  | 0, _, _, _, h, hb => h
  | 1, _, _, _, h, hb => h
  | 2, _, _, _, h, hb => h
  | 3, _, _, _, h, hb => ChV.mono h hb
  | 4, _, _, _, h, hb => h
  | 5, _, _, _, h, hb => ChV.mono h hb
  | 6, _, _, _, h, hb => h
  | 7, _, _, _, h, hb => h
  | 8, _, _, _, h, hb => h
  | 9, _, _, _, h, hb => h
  | 10, _, _, _, h, hb => PolV.mono h hb
  | 11, _, _, _, h, hb => PolV.mono h hb
  | 12, _, _, _, h, hb => PolV.mono h hb
  | 13, _, _, _, h, hb => PolV.mono h hb
  | 14, _, _, _, h, hb => h
  | 15, _, _, _, h, hb => PolV.mono h hb
  | 16, _, _, _, h, hb => PolV.mono h hb
  | 17, _, _, _, h, hb => PolV.mono h hb
  | 18, _, _, _, h, hb => PolV.mono h hb
  | 19, _, _, _, h, hb => h
  | 20, _, _, _, h, hb => h
  | 21, _, _, _, h, hb => h
  | n + 22, _, _, _, _, _ => trivial
set_option maxRecDepth 100000 in
set_option maxHeartbeats 2000000 in
theorem db7.region {Q : Exit → Act → World → Prop} {id : Nat} {a : Act} {w : World} (p q : Pol) {b2 b3 : Nat} (C0 D0 : Array Value) (kp : k28.K w p C0.toList) (kq : k28.K w q D0.toList) (hsp : Sz p) (hsq : Sz q) (hdpq : okD p q = true) (hdqp : okD q p = true) {AL AM : Option Addr} {cL cM : Nat} (hlL : (chL p q).length ≤ cL) (hlM : (chL q p).length ≤ cM) (hL : Kd.C k53 w AL (chL p q).length (chL p q)) (hM : Kd.C k53 w AM (chL q p).length (chL q p)) (hlen : (chL q p).length = (chL p q).length) (hsame : sameB q p = sameB p q) (hm : Try.prog.follows .mixedOrders = true) (hs : a.tmps.size = 71) (h2 : a.eval (.tmp 2) = .pointer (some ⟨b2, 0, none⟩)) (hb2 : w.heap[b2]? = some (Obj.cells C0 28 (0, 0)))  (h3 : a.eval (.tmp 3) = .pointer (some ⟨b3, 0, none⟩)) (hb3 : w.heap[b3]? = some (Obj.cells D0 28 (0, 0)))  (h5 : a.eval (.tmp 5) = .bool true) (h7 : a.eval (.tmp 7) = .slice AL (chL p q).length cL) (h8 : a.eval (.tmp 8) = .slice AM (chL q p).length cM)
    (hdone : ∀ (xs : Nat → Value) (W : World), Below w.heap.size w W → IsV (.bool false) (xs 21) W → Q .normal (putZ a db7.ns 0 xs) W) :
    (Code.region id (opsOf Try.f8 7) true).wp Try.prog Q a w := by
  refine region_pred (T := db7.T) 22 (fun _ W => Below w.heap.size w W) (db7.V p q) hm (by kernel_rfl) db7.tab (by kernel_rfl) (by kernel_rfl) (below_drew (Below.refl _ _)) (fun _ h => h) ?hsteps ?hd
  case hd => exact fun xs W hI hV => hdone xs W hI (hV 21 (by decide))
  case hsteps =>
    have hsz : ∀ t, t < 71 → t < a.tmps.size := fun t ht => by rw [hs]; exact ht
    refine ⟨?_, ?_, ?_, ?_, ?_, ?_, ?_, ?_, ?_, ?_, ?_, ?_, ?_, ?_, ?_, ?_, ?_, ?_, ?_, ?_, ?_, ?_, trivial⟩
    · refine step_op (Op.move (.tmp 5)) (some 28) [] db7.ns (by kernel_rfl) rfl (by kernel_rfl) (fun o ho hd hw l xs W hF hl hn K hK => ?_)
      have e1 := eval_o (xs := xs) (ns := db7.ns) h5
      exact value_ (v := .bool true) (hw _) hd (w1 := W) (by simp only [execOp, ho, e1]; go_simp) (hK.out _ _ (hF.now hF.1 (rfl)))
    · refine step_op (Op.unOp .not 4 (.tmp 28)) (some 29) [0] db7.ns (by kernel_rfl) rfl (by kernel_rfl) (fun o ho hd hw l xs W hF hl hn K hK => ?_)
      have e0 : (putZ a db7.ns 0 xs).eval (.tmp 28) = .bool true := (eval_z 0 (hsz 28 (by decide))).trans (hF.get 0 hn.1)
      exact value_ (v := .bool false) (hw _) hd (w1 := W) (by simp only [Act.eval, Array.getD_eq_getD_getElem?] at e0; simp only [execOp, ho]; go_simp) (hK.out _ _ (hF.now hF.1 rfl))
    · refine step_op (Op.move (.tmp 29)) (some 30) [1] db7.ns (by kernel_rfl) rfl (by kernel_rfl) (fun o ho hd hw l xs W hF hl hn K hK => ?_)
      have e1 : (putZ a db7.ns 0 xs).eval (.tmp 29) = xs 1 := eval_z 1 (hsz 29 (by decide))
      exact value_ (v := xs 1) (hw _) hd (w1 := W) (by simp only [execOp, ho, e1]; go_simp) (hK.out _ _ (hF.now hF.1 (hF.get 1 hn.1)))
    · refine step_og (Op.move (.tmp 7)) (some 31) 2 false 30 [2] db7.ns (by kernel_rfl) (by kernel_rfl) rfl (by kernel_rfl) (fun o ho hd hw0 l xs W hF hl hn K hK => ?_)
      have eg : (putZ a db7.ns 0 xs).eval (.tmp 30) = .bool false := (eval_z 2 (hsz 30 (by decide))).trans (hF.get 2 hn.1)
      have hw := hw0 (putZ a db7.ns 0 xs) (by rw [putZ_size]; exact hsz 30 (by decide)) eg
      have e1 := eval_o (xs := xs) (ns := db7.ns) h7
      exact value_ (v := .slice AL (chL p q).length cL) hw hd (w1 := W) (by simp only [execOp, ho, e1]; go_simp) (hK.out _ _ (hF.now hF.1 (⟨AL, cL, rfl, hlL, Kd.C_below hL hF.1⟩)))
    · refine step_og (Op.call { callee := .builtin .len, args := #[.tmp 31], argTypes := #[47] }) (some 32) 2 false 30 [3, 2] db7.ns (by kernel_rfl) (by kernel_rfl) rfl (by kernel_rfl) (fun o ho hd hw0 l xs W hF hl hn K hK => ?_)
      have eg : (putZ a db7.ns 0 xs).eval (.tmp 30) = .bool false := (eval_z 2 (hsz 30 (by decide))).trans (hF.get 2 hn.2.1)
      have hw := hw0 (putZ a db7.ns 0 xs) (by rw [putZ_size]; exact hsz 30 (by decide)) eg
      obtain ⟨A_e0, c_e0, e_e0, l_e0, k_e0⟩ := hF.get 3 hn.1
      have e0 : (putZ a db7.ns 0 xs).eval (.tmp 31) = .slice A_e0 (chL p q).length c_e0 := (eval_z 3 (hsz 31 (by decide))).trans e_e0
      exact value_ (v := .int .i64 ((chL p q).length : Nat)) hw hd (w1 := W) (by simp only [Act.eval, Array.getD_eq_getD_getElem?] at e0; simp only [execOp, ho]; go_simp) (hK.out _ _ (hF.now hF.1 rfl))
    · refine step_og (Op.move (.tmp 8)) (some 33) 2 false 30 [2] db7.ns (by kernel_rfl) (by kernel_rfl) rfl (by kernel_rfl) (fun o ho hd hw0 l xs W hF hl hn K hK => ?_)
      have eg : (putZ a db7.ns 0 xs).eval (.tmp 30) = .bool false := (eval_z 2 (hsz 30 (by decide))).trans (hF.get 2 hn.1)
      have hw := hw0 (putZ a db7.ns 0 xs) (by rw [putZ_size]; exact hsz 30 (by decide)) eg
      have e1 := eval_o (xs := xs) (ns := db7.ns) h8
      exact value_ (v := .slice AM (chL q p).length cM) hw hd (w1 := W) (by simp only [execOp, ho, e1]; go_simp) (hK.out _ _ (hF.now hF.1 (⟨AM, cM, rfl, hlM, Kd.C_below hM hF.1⟩)))
    · refine step_og (Op.call { callee := .builtin .len, args := #[.tmp 33], argTypes := #[47] }) (some 34) 2 false 30 [5, 2] db7.ns (by kernel_rfl) (by kernel_rfl) rfl (by kernel_rfl) (fun o ho hd hw0 l xs W hF hl hn K hK => ?_)
      have eg : (putZ a db7.ns 0 xs).eval (.tmp 30) = .bool false := (eval_z 2 (hsz 30 (by decide))).trans (hF.get 2 hn.2.1)
      have hw := hw0 (putZ a db7.ns 0 xs) (by rw [putZ_size]; exact hsz 30 (by decide)) eg
      obtain ⟨A_e0, c_e0, e_e0, l_e0, k_e0⟩ := hF.get 5 hn.1
      have e0 : (putZ a db7.ns 0 xs).eval (.tmp 33) = .slice A_e0 (chL q p).length c_e0 := (eval_z 5 (hsz 33 (by decide))).trans e_e0
      exact value_ (v := .int .i64 ((chL q p).length : Nat)) hw hd (w1 := W) (by simp only [Act.eval, Array.getD_eq_getD_getElem?] at e0; simp only [execOp, ho]; go_simp) (hK.out _ _ (hF.now hF.1 rfl))
    · refine step_og (Op.binOp .neq 3 (.tmp 32) (.tmp 34) 3) (some 35) 2 false 30 [4, 6, 2] db7.ns (by kernel_rfl) (by kernel_rfl) rfl (by kernel_rfl) (fun o ho hd hw0 l xs W hF hl hn K hK => ?_)
      have eg : (putZ a db7.ns 0 xs).eval (.tmp 30) = .bool false := (eval_z 2 (hsz 30 (by decide))).trans (hF.get 2 hn.2.2.1)
      have hw := hw0 (putZ a db7.ns 0 xs) (by rw [putZ_size]; exact hsz 30 (by decide)) eg
      have e0 : (putZ a db7.ns 0 xs).eval (.tmp 32) = .int .i64 ((chL p q).length : Nat) := (eval_z 4 (hsz 32 (by decide))).trans (hF.get 4 hn.1)
      have e1 : (putZ a db7.ns 0 xs).eval (.tmp 34) = .int .i64 ((chL q p).length : Nat) := (eval_z 6 (hsz 34 (by decide))).trans (hF.get 6 hn.2.1)
      exact value_ (v := .bool false) hw hd (w1 := W) (by simp only [Act.eval, Array.getD_eq_getD_getElem?] at e0 e1; simp only [execOp, ho]; go_simp) (hK.out _ _ (hF.now hF.1 rfl))
    · refine step_op (Op.pick (.tmp 30) (.const (.bool true)) (.tmp 35)) (some 36) [2, 7] db7.ns (by kernel_rfl) rfl (by kernel_rfl) (fun o ho hd hw l xs W hF hl hn K hK => ?_)
      have e0 : (putZ a db7.ns 0 xs).eval (.tmp 30) = .bool false := (eval_z 2 (hsz 30 (by decide))).trans (hF.get 2 hn.1)
      have e1 : (putZ a db7.ns 0 xs).eval (.tmp 35) = .bool false := (eval_z 7 (hsz 35 (by decide))).trans (hF.get 7 hn.2.1)
      exact value_ (v := .bool false) (hw _) hd (w1 := W) (by simp only [Act.eval, Array.getD_eq_getD_getElem?] at e0 e1; simp only [execOp, ho]; go_simp) (hK.out _ _ (hF.now hF.1 rfl))
    · refine step_op (Op.move (.tmp 36)) (some 37) [8, 2] db7.ns (by kernel_rfl) rfl (by kernel_rfl) (fun o ho hd hw l xs W hF hl hn K hK => ?_)
      have e1 : (putZ a db7.ns 0 xs).eval (.tmp 36) = xs 8 := eval_z 8 (hsz 36 (by decide))
      exact value_ (v := xs 8) (hw _) hd (w1 := W) (by simp only [execOp, ho, e1]; go_simp) (hK.out _ _ (hF.now hF.1 (hF.get 8 hn.1)))
    · refine step_og (Op.load 28 (.tmp 2)) (some 38) 9 false 37 [9] db7.ns (by kernel_rfl) (by kernel_rfl) rfl (by kernel_rfl) (fun o ho hd hw0 l xs W hF hl hn K hK => ?_)
      have eg : (putZ a db7.ns 0 xs).eval (.tmp 37) = .bool false := (eval_z 9 (hsz 37 (by decide))).trans (hF.get 9 hn.1)
      have hw := hw0 (putZ a db7.ns 0 xs) (by rw [putZ_size]; exact hsz 37 (by decide)) eg
      have e1 := eval_o (xs := xs) (ns := db7.ns) h2
      exact load_c hw hd ho b2 e1 (blk_below hb2 hF.1) Try.underlying28 rfl (pol_size kp) (hK.out _ _ (hF.now hF.1 (⟨_, rfl, k28.K_below hF.1 kp⟩)))
    · refine step_og (Op.call { callee := .value (.func 30), args := #[.tmp 38], argTypes := #[28] }) (some 39) 9 false 37 [10, 9, 9] db7.ns (by kernel_rfl) (by kernel_rfl) rfl (by kernel_rfl) (fun o ho hd hw0 l xs W hF hl hn K hK => ?_)
      have eg : (putZ a db7.ns 0 xs).eval (.tmp 37) = .bool false := (eval_z 9 (hsz 37 (by decide))).trans (hF.get 9 hn.2.1)
      have hw := hw0 (putZ a db7.ns 0 xs) (by rw [putZ_size]; exact hsz 37 (by decide)) eg
      obtain ⟨C_e0, e_e0, k_e0⟩ := hF.get 10 hn.1
      have e0 : (putZ a db7.ns 0 xs).eval (.tmp 38) = .agg C_e0 := (eval_z 10 (hsz 38 (by decide))).trans e_e0
      refine goes_ Try.func30 (by kernel_rfl) rfl #[.agg C_e0] hw hd ho (by simp only [List.map_toArray, List.map_cons, List.map_nil, e0]) ?_
      refine (twin_k p _ W k_e0 hsp).mono ?_
      rintro e W' ⟨C1, rfl, hk, hb⟩
      exact ⟨_, rfl, hK.out _ _ (hF.up (hF.1.trans (hb.mono hF.1.size)) (fun j v _ _ h => db7.mono j h hb) (⟨C1, rfl, hk⟩))⟩
    · refine step_og (Op.load 28 (.tmp 3)) (some 40) 9 false 37 [9] db7.ns (by kernel_rfl) (by kernel_rfl) rfl (by kernel_rfl) (fun o ho hd hw0 l xs W hF hl hn K hK => ?_)
      have eg : (putZ a db7.ns 0 xs).eval (.tmp 37) = .bool false := (eval_z 9 (hsz 37 (by decide))).trans (hF.get 9 hn.1)
      have hw := hw0 (putZ a db7.ns 0 xs) (by rw [putZ_size]; exact hsz 37 (by decide)) eg
      have e1 := eval_o (xs := xs) (ns := db7.ns) h3
      exact load_c hw hd ho b3 e1 (blk_below hb3 hF.1) Try.underlying28 rfl (pol_size kq) (hK.out _ _ (hF.now hF.1 (⟨_, rfl, k28.K_below hF.1 kq⟩)))
    · refine step_og (Op.call { callee := .value (.func 30), args := #[.tmp 40], argTypes := #[28] }) (some 41) 9 false 37 [12, 11, 9] db7.ns (by kernel_rfl) (by kernel_rfl) rfl (by kernel_rfl) (fun o ho hd hw0 l xs W hF hl hn K hK => ?_)
      have eg : (putZ a db7.ns 0 xs).eval (.tmp 37) = .bool false := (eval_z 9 (hsz 37 (by decide))).trans (hF.get 9 hn.2.2.1)
      have hw := hw0 (putZ a db7.ns 0 xs) (by rw [putZ_size]; exact hsz 37 (by decide)) eg
      obtain ⟨C_e0, e_e0, k_e0⟩ := hF.get 12 hn.1
      have e0 : (putZ a db7.ns 0 xs).eval (.tmp 40) = .agg C_e0 := (eval_z 12 (hsz 40 (by decide))).trans e_e0
      refine goes_ Try.func30 (by kernel_rfl) rfl #[.agg C_e0] hw hd ho (by simp only [List.map_toArray, List.map_cons, List.map_nil, e0]) ?_
      refine (twin_k q _ W k_e0 hsq).mono ?_
      rintro e W' ⟨C1, rfl, hk, hb⟩
      exact ⟨_, rfl, hK.out _ _ (hF.up (hF.1.trans (hb.mono hF.1.size)) (fun j v _ _ h => db7.mono j h hb) (⟨C1, rfl, hk⟩))⟩
    · refine step_og (Op.call { callee := .value (.func 37), args := #[.tmp 39, .tmp 41], argTypes := #[28, 28] }) (some 42) 9 false 37 [11, 13, 13, 9] db7.ns (by kernel_rfl) (by kernel_rfl) rfl (by kernel_rfl) (fun o ho hd hw0 l xs W hF hl hn K hK => ?_)
      have eg : (putZ a db7.ns 0 xs).eval (.tmp 37) = .bool false := (eval_z 9 (hsz 37 (by decide))).trans (hF.get 9 hn.2.2.2.1)
      have hw := hw0 (putZ a db7.ns 0 xs) (by rw [putZ_size]; exact hsz 37 (by decide)) eg
      obtain ⟨C_e0, e_e0, k_e0⟩ := hF.get 11 hn.1
      have e0 : (putZ a db7.ns 0 xs).eval (.tmp 39) = .agg C_e0 := (eval_z 11 (hsz 39 (by decide))).trans e_e0
      obtain ⟨C_e1, e_e1, k_e1⟩ := hF.get 13 hn.2.1
      have e1 : (putZ a db7.ns 0 xs).eval (.tmp 41) = .agg C_e1 := (eval_z 13 (hsz 41 (by decide))).trans e_e1
      refine goes_ Try.func37 (by kernel_rfl) rfl #[.agg C_e0, .agg C_e1] hw hd ho (by simp only [List.map_toArray, List.map_cons, List.map_nil, e0, e1]) ?_
      refine (same_k2 p q _ _ W k_e0 k_e1 hdpq).mono ?_
      rintro e W' ⟨rfl, hb⟩
      exact ⟨_, rfl, hK.out _ _ (hF.up (hF.1.trans (hb.mono hF.1.size)) (fun j v _ _ h => db7.mono j h hb) (rfl))⟩
    · refine step_og (Op.load 28 (.tmp 3)) (some 43) 9 false 37 [9] db7.ns (by kernel_rfl) (by kernel_rfl) rfl (by kernel_rfl) (fun o ho hd hw0 l xs W hF hl hn K hK => ?_)
      have eg : (putZ a db7.ns 0 xs).eval (.tmp 37) = .bool false := (eval_z 9 (hsz 37 (by decide))).trans (hF.get 9 hn.1)
      have hw := hw0 (putZ a db7.ns 0 xs) (by rw [putZ_size]; exact hsz 37 (by decide)) eg
      have e1 := eval_o (xs := xs) (ns := db7.ns) h3
      exact load_c hw hd ho b3 e1 (blk_below hb3 hF.1) Try.underlying28 rfl (pol_size kq) (hK.out _ _ (hF.now hF.1 (⟨_, rfl, k28.K_below hF.1 kq⟩)))
    · refine step_og (Op.call { callee := .value (.func 30), args := #[.tmp 43], argTypes := #[28] }) (some 44) 9 false 37 [15, 14, 9] db7.ns (by kernel_rfl) (by kernel_rfl) rfl (by kernel_rfl) (fun o ho hd hw0 l xs W hF hl hn K hK => ?_)
      have eg : (putZ a db7.ns 0 xs).eval (.tmp 37) = .bool false := (eval_z 9 (hsz 37 (by decide))).trans (hF.get 9 hn.2.2.1)
      have hw := hw0 (putZ a db7.ns 0 xs) (by rw [putZ_size]; exact hsz 37 (by decide)) eg
      obtain ⟨C_e0, e_e0, k_e0⟩ := hF.get 15 hn.1
      have e0 : (putZ a db7.ns 0 xs).eval (.tmp 43) = .agg C_e0 := (eval_z 15 (hsz 43 (by decide))).trans e_e0
      refine goes_ Try.func30 (by kernel_rfl) rfl #[.agg C_e0] hw hd ho (by simp only [List.map_toArray, List.map_cons, List.map_nil, e0]) ?_
      refine (twin_k q _ W k_e0 hsq).mono ?_
      rintro e W' ⟨C1, rfl, hk, hb⟩
      exact ⟨_, rfl, hK.out _ _ (hF.up (hF.1.trans (hb.mono hF.1.size)) (fun j v _ _ h => db7.mono j h hb) (⟨C1, rfl, hk⟩))⟩
    · refine step_og (Op.load 28 (.tmp 2)) (some 45) 9 false 37 [9] db7.ns (by kernel_rfl) (by kernel_rfl) rfl (by kernel_rfl) (fun o ho hd hw0 l xs W hF hl hn K hK => ?_)
      have eg : (putZ a db7.ns 0 xs).eval (.tmp 37) = .bool false := (eval_z 9 (hsz 37 (by decide))).trans (hF.get 9 hn.1)
      have hw := hw0 (putZ a db7.ns 0 xs) (by rw [putZ_size]; exact hsz 37 (by decide)) eg
      have e1 := eval_o (xs := xs) (ns := db7.ns) h2
      exact load_c hw hd ho b2 e1 (blk_below hb2 hF.1) Try.underlying28 rfl (pol_size kp) (hK.out _ _ (hF.now hF.1 (⟨_, rfl, k28.K_below hF.1 kp⟩)))
    · refine step_og (Op.call { callee := .value (.func 30), args := #[.tmp 45], argTypes := #[28] }) (some 46) 9 false 37 [17, 16, 9] db7.ns (by kernel_rfl) (by kernel_rfl) rfl (by kernel_rfl) (fun o ho hd hw0 l xs W hF hl hn K hK => ?_)
      have eg : (putZ a db7.ns 0 xs).eval (.tmp 37) = .bool false := (eval_z 9 (hsz 37 (by decide))).trans (hF.get 9 hn.2.2.1)
      have hw := hw0 (putZ a db7.ns 0 xs) (by rw [putZ_size]; exact hsz 37 (by decide)) eg
      obtain ⟨C_e0, e_e0, k_e0⟩ := hF.get 17 hn.1
      have e0 : (putZ a db7.ns 0 xs).eval (.tmp 45) = .agg C_e0 := (eval_z 17 (hsz 45 (by decide))).trans e_e0
      refine goes_ Try.func30 (by kernel_rfl) rfl #[.agg C_e0] hw hd ho (by simp only [List.map_toArray, List.map_cons, List.map_nil, e0]) ?_
      refine (twin_k p _ W k_e0 hsp).mono ?_
      rintro e W' ⟨C1, rfl, hk, hb⟩
      exact ⟨_, rfl, hK.out _ _ (hF.up (hF.1.trans (hb.mono hF.1.size)) (fun j v _ _ h => db7.mono j h hb) (⟨C1, rfl, hk⟩))⟩
    · refine step_og (Op.call { callee := .value (.func 37), args := #[.tmp 44, .tmp 46], argTypes := #[28, 28] }) (some 47) 9 false 37 [16, 18, 18, 9] db7.ns (by kernel_rfl) (by kernel_rfl) rfl (by kernel_rfl) (fun o ho hd hw0 l xs W hF hl hn K hK => ?_)
      have eg : (putZ a db7.ns 0 xs).eval (.tmp 37) = .bool false := (eval_z 9 (hsz 37 (by decide))).trans (hF.get 9 hn.2.2.2.1)
      have hw := hw0 (putZ a db7.ns 0 xs) (by rw [putZ_size]; exact hsz 37 (by decide)) eg
      obtain ⟨C_e0, e_e0, k_e0⟩ := hF.get 16 hn.1
      have e0 : (putZ a db7.ns 0 xs).eval (.tmp 44) = .agg C_e0 := (eval_z 16 (hsz 44 (by decide))).trans e_e0
      obtain ⟨C_e1, e_e1, k_e1⟩ := hF.get 18 hn.2.1
      have e1 : (putZ a db7.ns 0 xs).eval (.tmp 46) = .agg C_e1 := (eval_z 18 (hsz 46 (by decide))).trans e_e1
      refine goes_ Try.func37 (by kernel_rfl) rfl #[.agg C_e0, .agg C_e1] hw hd ho (by simp only [List.map_toArray, List.map_cons, List.map_nil, e0, e1]) ?_
      refine (same_k2 q p _ _ W k_e0 k_e1 hdqp).mono ?_
      rintro e W' ⟨rfl, hb⟩
      exact ⟨_, rfl, hK.out _ _ (hF.up (hF.1.trans (hb.mono hF.1.size)) (fun j v _ _ h => db7.mono j h hb) (rfl))⟩
    · refine step_og (Op.binOp .neq 4 (.tmp 42) (.tmp 47) 4) (some 48) 9 false 37 [14, 19, 9] db7.ns (by kernel_rfl) (by kernel_rfl) rfl (by kernel_rfl) (fun o ho hd hw0 l xs W hF hl hn K hK => ?_)
      have eg : (putZ a db7.ns 0 xs).eval (.tmp 37) = .bool false := (eval_z 9 (hsz 37 (by decide))).trans (hF.get 9 hn.2.2.1)
      have hw := hw0 (putZ a db7.ns 0 xs) (by rw [putZ_size]; exact hsz 37 (by decide)) eg
      have e0 : (putZ a db7.ns 0 xs).eval (.tmp 42) = .bool (sameB p q) := (eval_z 14 (hsz 42 (by decide))).trans (hF.get 14 hn.1)
      have e1 : (putZ a db7.ns 0 xs).eval (.tmp 47) = .bool (sameB q p) := (eval_z 19 (hsz 47 (by decide))).trans (hF.get 19 hn.2.1)
      exact value_ (v := .bool false) hw hd (w1 := W) (by simp only [Act.eval, Array.getD_eq_getD_getElem?] at e0 e1; simp only [execOp, ho]; go_simp) (hK.out _ _ (hF.now hF.1 rfl))
    · refine step_op (Op.pick (.tmp 37) (.const (.bool true)) (.tmp 48)) (some 49) [9, 20] db7.ns (by kernel_rfl) rfl (by kernel_rfl) (fun o ho hd hw l xs W hF hl hn K hK => ?_)
      have e0 : (putZ a db7.ns 0 xs).eval (.tmp 37) = .bool false := (eval_z 9 (hsz 37 (by decide))).trans (hF.get 9 hn.1)
      have e1 : (putZ a db7.ns 0 xs).eval (.tmp 48) = .bool false := (eval_z 20 (hsz 48 (by decide))).trans (hF.get 20 hn.2.1)
      exact value_ (v := .bool false) (hw _) hd (w1 := W) (by simp only [Act.eval, Array.getD_eq_getD_getElem?] at e0 e1; simp only [execOp, ho]; go_simp) (hK.out _ _ (hF.now hF.1 rfl))
end Go.Proofs.Yteefneemmdfncaa.M
