import Derived.Test.YtcoodlncjnekoaaYc
import Derived.Test.YtcoodlncjnekoaaWAlo
/- JournalActs: looks. Conditions: each theorem's own. -/
namespace Go.Proofs.Ytcoodlncjnekoaa.F
open Go.RowKit Go.Proofs.YtcoodlncjnekoaaW.Raw Go.Proofs.YtcoodlncjnekoaaW.PrintWords Go.Proofs.YtcoodlncjnekoaaW.PrintLast Go.Proofs.YtcoodlncjnekoaaW.PrintAll Go.Proofs.JournalPlain Go.Proofs.Ytcoodlncjnekoaa.D
set_option linter.unusedVariables false
set_option linter.unusedSimpArgs false
theorem bytes_same (T : ByteArray) : (T == T) = true := (MapKept.bytes_beq T T).2 rfl
theorem bytes_same2 (T : ByteArray) : (T.toList == T.toList) = true := beq_self_eq_true _
/-- What looks knows behind its two boxes. -/
structure Ak (B : Nat) (f : Nat → Prop) (W0 W : World) (t g j b3 b5 : Nat) (v : Value) (room safe ver : Int) (T txt : ByteArray) (L : Value) (es : List S23) : Prop where
  q : Aq B f W0 W t g j v room safe ver T txt L es
  x : W.heap[b3]? = some (.cells #[.int .i64 ver, .string txt] 23 (0, 0))
  y : W.heap[b5]? = some (.cells #[.int .i64 ver, .string txt] 23 (0, 0))
section
variable {B : Nat} {f : Nat → Prop} {W0 W W1 : World} {t g j b3 b5 : Nat} {v : Value} {room safe ver : Int} {T txt : ByteArray} {L : Value} {es : List S23}
theorem Ak.left (h : Ak B f W0 W t g j b3 b5 v room safe ver T txt L es) (hd : Dk W1 B g v room safe T) (hl : D.Left W W1 B g v) : Ak B f W0 W1 t g j b3 b5 v room safe ver T txt L es :=
  ⟨h.q.left hd hl, hl.keep h.q.a.d h.x (by decide) (by decide), hl.keep h.q.a.d h.y (by decide) (by decide)⟩
theorem Ak.drew (h : Ak B f W0 W t g j b3 b5 v room safe ver T txt L es) : Ak B f W0 W.drew t g j b3 b5 v room safe ver T txt L es := ⟨h.q.drew, h.x, h.y⟩
end
abbrev lk3.ns : List (Option Tmp) := [some 22, some 23, some 24, some 25, some 26, some 27, some 28, some 29, some 30, some 31, some 32, some 33, some 34, some 35, some 36, some 37, some 38, some 39, some 40, some 41, some 42, some 43, some 44, some 45, some 46, some 47, some 48, some 49, some 50, some 51, some 52, some 53, some 54, some 55, some 56, some 57, some 2]
def lk3.T : Bool × List (List Nat × List Nat) := (true, [([], []), ([], []), ([0, 1], [0, 1]), ([2], [2]), ([3], [3]), ([3], [3]), ([4, 5, 3], [3, 4, 5]), ([3, 6], [3, 6]), ([7, 3], [7]), ([8], [8]), ([9, 8], [8, 9]), ([10, 8], [8, 10]), ([11, 8], [8, 11]), ([12, 8, 8], [8, 12]), ([8], [8]), ([14, 8], [8, 14]), ([15, 8], [8, 15]), ([16, 8], [8, 16]), ([17, 8], [8, 17]), ([18, 8], [8, 18]), ([13, 19, 8], [8, 13, 19]), ([8, 20], [8, 20]), ([21, 13], [21]), ([22], [22]), ([23, 22], [22, 23]), ([24, 22], [22, 24]), ([25, 22], [22, 25]), ([26, 22, 22], [22, 26]), ([22], [22]), ([28, 22], [22, 28]), ([29, 22], [22, 29]), ([30, 22], [22, 30]), ([31, 22], [22, 31]), ([32, 22], [22, 32]), ([27, 33, 22], [22, 27, 33]), ([22, 34], [22, 34]), ([35, 27, 0, 1, 2, 3, 4, 5, 6, 7, 8, 9, 10, 11, 12, 13, 14, 15, 16, 17, 18, 19, 20, 21, 22, 23, 24, 25, 26, 27, 28, 29, 30, 31, 32, 33, 34, 35], [35])])
theorem lk3.tab : rtab .any (opsOf Try.f42 3) = lk3.T := by kernel_rfl
def lk3.V (B : Nat) (f : Nat → Prop) (W0 : World) (t g j b3 b5 : Nat) (v : Value) (room safe ver : Int) (T txt : ByteArray) (L : Value) (es : List S23) (any : Bool) : Nat → Value → World → Prop
  | 0 => fun v_ _ => v_ = .agg #[.int .i64 ver, .string txt]
  | 1 => fun v_ _ => v_ = .agg #[.int .i64 ver, .string txt]
  | 2 => fun v_ _ => v_ = .bool true
  | 3 => fun v_ _ => v_ = .bool true
  | 4 => fun v_ _ => v_ = .bool any
  | 5 => fun v_ _ => v_ = .bool any
  | 6 => fun v_ _ => v_ = .bool true
  | 7 => fun v_ _ => v_ = .bool true
  | 8 => fun v_ _ => v_ = .bool true
  | 9 => fun v_ _ => v_ = .pointer (some ⟨t, 0, none⟩)
  | 10 => fun v_ _ => v_ = .pointer (some ⟨t, 0, none⟩)
  | 11 => fun v_ _ => v_ = .pointer (some ⟨t, 0, none⟩)
  | 12 => fun v_ _ => v_ = .pointer (some ⟨g, 0, none⟩)
  | 13 => fun v_ _ => v_ = .string T
  | 14 => fun v_ _ => v_ = .pointer (some ⟨t, 0, none⟩)
  | 15 => fun v_ _ => v_ = .pointer (some ⟨t, 0, none⟩)
  | 16 => fun v_ _ => v_ = .pointer (some ⟨t, 2, none⟩)
  | 17 => fun v_ _ => v_ = .pointer (some ⟨t, 2, none⟩)
  | 18 => fun v_ _ => v_ = .pointer (some ⟨t, 2, none⟩)
  | 19 => fun v_ _ => v_ = .string T
  | 20 => fun v_ _ => v_ = .bool true
  | 21 => fun v_ _ => v_ = .bool true
  | 22 => fun v_ _ => v_ = .bool true
  | 23 => fun v_ _ => v_ = .pointer (some ⟨t, 0, none⟩)
  | 24 => fun v_ _ => v_ = .pointer (some ⟨t, 0, none⟩)
  | 25 => fun v_ _ => v_ = .pointer (some ⟨t, 0, none⟩)
  | 26 => fun v_ _ => v_ = .pointer (some ⟨g, 0, none⟩)
  | 27 => fun v_ _ => v_ = .int .i64 safe
  | 28 => fun v_ _ => v_ = .pointer (some ⟨t, 0, none⟩)
  | 29 => fun v_ _ => v_ = .pointer (some ⟨t, 0, none⟩)
  | 30 => fun v_ _ => v_ = .pointer (some ⟨t, 2, none⟩)
  | 31 => fun v_ _ => v_ = .pointer (some ⟨t, 2, none⟩)
  | 32 => fun v_ _ => v_ = .pointer (some ⟨t, 4, none⟩)
  | 33 => fun v_ _ => v_ = .int .i64 safe
  | 34 => fun v_ _ => v_ = .bool true
  | 35 => fun v_ _ => v_ = .bool true
  | 36 => fun v_ _ => v_ = .bool true
  | _ => fun _ _ => True
theorem lk3.any {B : Nat} {f : Nat → Prop} {W0 : World} {t g j b3 b5 : Nat} {v : Value} {room safe ver : Int} {T txt : ByteArray} {L : Value} {es : List S23} {any : Bool} : ∀ (j_ : Nat) {v_ : Value} {W_ W_' : World}, lk3.V B f W0 t g j b3 b5 v room safe ver T txt L es any j_ v_ W_ → lk3.V B f W0 t g j b3 b5 v room safe ver T txt L es any j_ v_ W_'
  | 0, _, _, _, h => h
  | 1, _, _, _, h => h
  | 2, _, _, _, h => h
  | 3, _, _, _, h => h
  | 4, _, _, _, h => h
  | 5, _, _, _, h => h
  | 6, _, _, _, h => h
  | 7, _, _, _, h => h
  | 8, _, _, _, h => h
  | 9, _, _, _, h => h
  | 10, _, _, _, h => h
  | 11, _, _, _, h => h
  | 12, _, _, _, h => h
  | 13, _, _, _, h => h
  | 14, _, _, _, h => h
  | 15, _, _, _, h => h
  | 16, _, _, _, h => h
  | 17, _, _, _, h => h
  | 18, _, _, _, h => h
  | 19, _, _, _, h => h
  | 20, _, _, _, h => h
  | 21, _, _, _, h => h
  | 22, _, _, _, h => h
  | 23, _, _, _, h => h
  | 24, _, _, _, h => h
  | 25, _, _, _, h => h
  | 26, _, _, _, h => h
  | 27, _, _, _, h => h
  | 28, _, _, _, h => h
  | 29, _, _, _, h => h
  | 30, _, _, _, h => h
  | 31, _, _, _, h => h
  | 32, _, _, _, h => h
  | 33, _, _, _, h => h
  | 34, _, _, _, h => h
  | 35, _, _, _, h => h
  | 36, _, _, _, h => h
  | n_ + 37, _, _, _, _ => trivial
set_option maxRecDepth 100000 in
set_option maxHeartbeats 2000000 in
theorem lk3.region {Q : Exit → Act → World → Prop} {id : Nat} {a : Act} {w : World} (B : Nat) (f : Nat → Prop) (W0 : World) (t g j b3 b5 : Nat) (v : Value) (room safe ver : Int) (T txt : ByteArray) (L : Value) (es : List S23) (any : Bool)  (hI0 : Ak B f W0 w t g j b3 b5 v room safe ver T txt L es) (hm : Try.prog.follows .mixedOrders = true) (hs : a.tmps.size = 58) (h0 : a.eval (.tmp 0) = .pointer (some ⟨t, 0, none⟩)) (h3 : a.eval (.tmp 3) = .pointer (some ⟨b3, 0, none⟩)) (h5 : a.eval (.tmp 5) = .pointer (some ⟨b5, 0, none⟩)) (h4 : a.eval (.tmp 4) = .bool any) (h6 : a.eval (.tmp 6) = .bool any)
    (hdone : ∀ (xs : Nat → Value) (W : World), Ak B f W0 W t g j b3 b5 v room safe ver T txt L es → xs 36 = .bool true → Q .normal (putZ a lk3.ns 0 xs) W) :
    (Code.region id (opsOf Try.f42 3) true).wp Try.prog Q a w := by
  refine region_pred (T := lk3.T) 37 (fun _ W => Ak B f W0 W t g j b3 b5 v room safe ver T txt L es) (lk3.V B f W0 t g j b3 b5 v room safe ver T txt L es any) hm (by kernel_rfl) lk3.tab (by kernel_rfl) (by kernel_rfl) (hI0.drew) (fun _ h => h) ?hsteps ?hd
  case hd => exact fun xs W hI hV => hdone xs W hI (hV 36 (by decide))
  case hsteps =>
    have hT1 := bytes_same T
    have hT2 := bytes_same2 T
    have hx1 := bytes_same txt
    have hx2 := bytes_same2 txt
    have hv1 : (ver == ver) = true := beq_self_eq_true _
    have hs1 : (safe == safe) = true := beq_self_eq_true _
    have ha1 : (any == any) = true := beq_self_eq_true _
    have hsz : ∀ t, t < 58 → t < a.tmps.size := fun t ht => by rw [hs]; exact ht
    refine ⟨?_, ?_, ?_, ?_, ?_, ?_, ?_, ?_, ?_, ?_, ?_, ?_, ?_, ?_, ?_, ?_, ?_, ?_, ?_, ?_, ?_, ?_, ?_, ?_, ?_, ?_, ?_, ?_, ?_, ?_, ?_, ?_, ?_, ?_, ?_, ?_, ?_, trivial⟩
    · refine step_op (Op.load 23 (.tmp 3)) (some 22) [] lk3.ns (by kernel_rfl) rfl (by kernel_rfl) (fun o ho hd hw l xs W hF hl hn K hK => ?_)
      have e0 : (putZ a lk3.ns 0 xs).eval (.tmp 3) = .pointer (some ⟨b3, 0, none⟩) := eval_o (xs := xs) (ns := lk3.ns) h3
      exact load_c (hw _) hd ho _ e0 (hF.1.x) Try.underlying23 rfl (by kernel_rfl) (hK.out _ _ (hF.now hF.1 rfl))
    · refine step_op (Op.load 23 (.tmp 5)) (some 23) [] lk3.ns (by kernel_rfl) rfl (by kernel_rfl) (fun o ho hd hw l xs W hF hl hn K hK => ?_)
      have e0 : (putZ a lk3.ns 0 xs).eval (.tmp 5) = .pointer (some ⟨b5, 0, none⟩) := eval_o (xs := xs) (ns := lk3.ns) h5
      exact load_c (hw _) hd ho _ e0 (hF.1.y) Try.underlying23 rfl (by kernel_rfl) (hK.out _ _ (hF.now hF.1 rfl))
    · refine step_op (Op.binOp .eql 23 (.tmp 22) (.tmp 23) 23) (some 24) [0, 1] lk3.ns (by kernel_rfl) rfl (by kernel_rfl) (fun o ho hd hw l xs W hF hl hn K hK => ?_)
      have e0 : (putZ a lk3.ns 0 xs).eval (.tmp 22) = .agg #[.int .i64 ver, .string txt] := (eval_z 0 (hsz 22 (by decide))).trans (hF.get 0 hn.1)
      have e1 : (putZ a lk3.ns 0 xs).eval (.tmp 23) = .agg #[.int .i64 ver, .string txt] := (eval_z 1 (hsz 23 (by decide))).trans (hF.get 1 hn.2.1)
      exact value_ (v := .bool true) (hw _) hd (w1 := W) (by simp only [Act.eval, Array.getD_eq_getD_getElem?] at e0 e1; simp only [execOp, ho]; first | (go_simp; done) | (simp [hv1, hx1, hx2, hT1, hT2, hs1]; done)) (hK.out _ _ (hF.now hF.1 rfl))
    · refine step_op (Op.move (.tmp 24)) (some 25) [2] lk3.ns (by kernel_rfl) rfl (by kernel_rfl) (fun o ho hd hw l xs W hF hl hn K hK => ?_)
      have e0 : (putZ a lk3.ns 0 xs).eval (.tmp 24) = .bool true := (eval_z 2 (hsz 24 (by decide))).trans (hF.get 2 hn.1)
      exact value_ (v := .bool true) (hw _) hd (w1 := W) (by simp only [execOp, ho, e0]; go_simp) (hK.out _ _ (hF.now hF.1 rfl))
    · refine step_og (Op.move (.tmp 4)) (some 26) 3 true 25 [3] lk3.ns (by kernel_rfl) (by kernel_rfl) rfl (by kernel_rfl) (fun o ho hd hw0 l xs W hF hl hn K hK => ?_)
      have eg : (putZ a lk3.ns 0 xs).eval (.tmp 25) = .bool true := (eval_z 3 (hsz 25 (by decide))).trans (hF.get 3 hn.1)
      have hw := hw0 (putZ a lk3.ns 0 xs) (by rw [putZ_size]; exact hsz 25 (by decide)) eg
      have e0 : (putZ a lk3.ns 0 xs).eval (.tmp 4) = .bool any := eval_o (xs := xs) (ns := lk3.ns) h4
      exact value_ (v := .bool any) hw hd (w1 := W) (by simp only [execOp, ho, e0]; go_simp) (hK.out _ _ (hF.now hF.1 rfl))
    · refine step_og (Op.move (.tmp 6)) (some 27) 3 true 25 [3] lk3.ns (by kernel_rfl) (by kernel_rfl) rfl (by kernel_rfl) (fun o ho hd hw0 l xs W hF hl hn K hK => ?_)
      have eg : (putZ a lk3.ns 0 xs).eval (.tmp 25) = .bool true := (eval_z 3 (hsz 25 (by decide))).trans (hF.get 3 hn.1)
      have hw := hw0 (putZ a lk3.ns 0 xs) (by rw [putZ_size]; exact hsz 25 (by decide)) eg
      have e0 : (putZ a lk3.ns 0 xs).eval (.tmp 6) = .bool any := eval_o (xs := xs) (ns := lk3.ns) h6
      exact value_ (v := .bool any) hw hd (w1 := W) (by simp only [execOp, ho, e0]; go_simp) (hK.out _ _ (hF.now hF.1 rfl))
    · refine step_og (Op.binOp .eql 4 (.tmp 26) (.tmp 27) 4) (some 28) 3 true 25 [4, 5, 3] lk3.ns (by kernel_rfl) (by kernel_rfl) rfl (by kernel_rfl) (fun o ho hd hw0 l xs W hF hl hn K hK => ?_)
      have eg : (putZ a lk3.ns 0 xs).eval (.tmp 25) = .bool true := (eval_z 3 (hsz 25 (by decide))).trans (hF.get 3 hn.2.2.1)
      have hw := hw0 (putZ a lk3.ns 0 xs) (by rw [putZ_size]; exact hsz 25 (by decide)) eg
      have e0 : (putZ a lk3.ns 0 xs).eval (.tmp 26) = .bool any := (eval_z 4 (hsz 26 (by decide))).trans (hF.get 4 hn.1)
      have e1 : (putZ a lk3.ns 0 xs).eval (.tmp 27) = .bool any := (eval_z 5 (hsz 27 (by decide))).trans (hF.get 5 hn.2.1)
      exact value_ (v := .bool true) hw hd (w1 := W) (by simp only [Act.eval, Array.getD_eq_getD_getElem?] at e0 e1; simp only [execOp, ho]; first | (go_simp; done) | (simp [hv1, hx1, hx2, hT1, hT2, hs1]; done)) (hK.out _ _ (hF.now hF.1 rfl))
    · refine step_op (Op.pick (.tmp 25) (.tmp 28) (.const (.bool false))) (some 29) [3, 6] lk3.ns (by kernel_rfl) rfl (by kernel_rfl) (fun o ho hd hw l xs W hF hl hn K hK => ?_)
      have e0 : (putZ a lk3.ns 0 xs).eval (.tmp 25) = .bool true := (eval_z 3 (hsz 25 (by decide))).trans (hF.get 3 hn.1)
      have e1 : (putZ a lk3.ns 0 xs).eval (.tmp 28) = .bool true := (eval_z 6 (hsz 28 (by decide))).trans (hF.get 6 hn.2.1)
      exact value_ (v := .bool true) (hw _) hd (w1 := W) (by simp only [Act.eval, Array.getD_eq_getD_getElem?] at e0 e1; simp only [execOp, ho]; go_simp) (hK.out _ _ (hF.now hF.1 rfl))
    · refine step_op (Op.move (.tmp 29)) (some 30) [7, 3] lk3.ns (by kernel_rfl) rfl (by kernel_rfl) (fun o ho hd hw l xs W hF hl hn K hK => ?_)
      have e0 : (putZ a lk3.ns 0 xs).eval (.tmp 29) = .bool true := (eval_z 7 (hsz 29 (by decide))).trans (hF.get 7 hn.1)
      exact value_ (v := .bool true) (hw _) hd (w1 := W) (by simp only [execOp, ho, e0]; go_simp) (hK.out _ _ (hF.now hF.1 rfl))
    · refine step_og (Op.move (.tmp 0)) (some 31) 8 true 30 [8] lk3.ns (by kernel_rfl) (by kernel_rfl) rfl (by kernel_rfl) (fun o ho hd hw0 l xs W hF hl hn K hK => ?_)
      have eg : (putZ a lk3.ns 0 xs).eval (.tmp 30) = .bool true := (eval_z 8 (hsz 30 (by decide))).trans (hF.get 8 hn.1)
      have hw := hw0 (putZ a lk3.ns 0 xs) (by rw [putZ_size]; exact hsz 30 (by decide)) eg
      have e0 : (putZ a lk3.ns 0 xs).eval (.tmp 0) = .pointer (some ⟨t, 0, none⟩) := eval_o (xs := xs) (ns := lk3.ns) h0
      exact value_ (v := .pointer (some ⟨t, 0, none⟩)) hw hd (w1 := W) (by simp only [execOp, ho, e0]; go_simp) (hK.out _ _ (hF.now hF.1 rfl))
    · refine step_og (Op.nilCheck (.tmp 31)) (some 32) 8 true 30 [9, 8] lk3.ns (by kernel_rfl) (by kernel_rfl) rfl (by kernel_rfl) (fun o ho hd hw0 l xs W hF hl hn K hK => ?_)
      have eg : (putZ a lk3.ns 0 xs).eval (.tmp 30) = .bool true := (eval_z 8 (hsz 30 (by decide))).trans (hF.get 8 hn.2.1)
      have hw := hw0 (putZ a lk3.ns 0 xs) (by rw [putZ_size]; exact hsz 30 (by decide)) eg
      have e0 : (putZ a lk3.ns 0 xs).eval (.tmp 31) = .pointer (some ⟨t, 0, none⟩) := (eval_z 9 (hsz 31 (by decide))).trans (hF.get 9 hn.1)
      exact value_ (v := .pointer (some ⟨t, 0, none⟩)) hw hd (w1 := W) (by simp only [execOp, ho, e0]; go_simp) (hK.out _ _ (hF.now hF.1 rfl))
    · refine step_og (Op.fieldAddr 82 (.tmp 32) 0) (some 33) 8 true 30 [10, 8] lk3.ns (by kernel_rfl) (by kernel_rfl) rfl (by kernel_rfl) (fun o ho hd hw0 l xs W hF hl hn K hK => ?_)
      have eg : (putZ a lk3.ns 0 xs).eval (.tmp 30) = .bool true := (eval_z 8 (hsz 30 (by decide))).trans (hF.get 8 hn.2.1)
      have hw := hw0 (putZ a lk3.ns 0 xs) (by rw [putZ_size]; exact hsz 30 (by decide)) eg
      have e0 : (putZ a lk3.ns 0 xs).eval (.tmp 32) = .pointer (some ⟨t, 0, none⟩) := (eval_z 10 (hsz 32 (by decide))).trans (hF.get 10 hn.1)
      exact value_ (v := .pointer (some ⟨t, 0, none⟩)) hw hd (w1 := W) (by simp only [execOp, ho, e0]; go_simp) (hK.out _ _ (hF.now hF.1 rfl))
    · refine step_og (Op.load 39 (.tmp 33)) (some 34) 8 true 30 [11, 8] lk3.ns (by kernel_rfl) (by kernel_rfl) rfl (by kernel_rfl) (fun o ho hd hw0 l xs W hF hl hn K hK => ?_)
      have eg : (putZ a lk3.ns 0 xs).eval (.tmp 30) = .bool true := (eval_z 8 (hsz 30 (by decide))).trans (hF.get 8 hn.2.1)
      have hw := hw0 (putZ a lk3.ns 0 xs) (by rw [putZ_size]; exact hsz 30 (by decide)) eg
      have e0 : (putZ a lk3.ns 0 xs).eval (.tmp 33) = .pointer (some ⟨t, 0, none⟩) := (eval_z 11 (hsz 33 (by decide))).trans (hF.get 11 hn.1)
      have hc := hF.1.q.a.c0
      exact value_ (v := .pointer (some ⟨g, 0, none⟩)) hw hd (w1 := W) (by simp only [Act.eval, Array.getD_eq_getD_getElem?] at e0; simp only [execOp, ho]; go_simp) (hK.out _ _ (hF.now hF.1 rfl))
    · refine step_og (Op.call { callee := .value (.func 24), args := #[.tmp 34], argTypes := #[39] }) (some 35) 8 true 30 [12, 8, 8] lk3.ns (by kernel_rfl) (by kernel_rfl) rfl (by kernel_rfl) (fun o ho hd hw0 l xs W hF hl hn K hK => ?_)
      have eg : (putZ a lk3.ns 0 xs).eval (.tmp 30) = .bool true := (eval_z 8 (hsz 30 (by decide))).trans (hF.get 8 hn.2.1)
      have hw := hw0 (putZ a lk3.ns 0 xs) (by rw [putZ_size]; exact hsz 30 (by decide)) eg
      have e0 : (putZ a lk3.ns 0 xs).eval (.tmp 34) = .pointer (some ⟨g, 0, none⟩) := (eval_z 12 (hsz 34 (by decide))).trans (hF.get 12 hn.1)
      refine goes_ Try.func24 (by kernel_rfl) rfl #[.pointer (some ⟨g, 0, none⟩)] hw hd ho (by simp only [List.map_toArray, List.map_cons, List.map_nil, e0]) ?_
      refine (bytes_dk hF.1.q.a.d).mono ?_
      rintro e W' ⟨rfl, hd2, hl2⟩
      exact ⟨_, rfl, hK.out _ _ (hF.up (hF.1.left hd2 hl2) (fun j v _ _ h => lk3.any j h) rfl)⟩
    · refine step_og (Op.move (.tmp 0)) (some 36) 8 true 30 [8] lk3.ns (by kernel_rfl) (by kernel_rfl) rfl (by kernel_rfl) (fun o ho hd hw0 l xs W hF hl hn K hK => ?_)
      have eg : (putZ a lk3.ns 0 xs).eval (.tmp 30) = .bool true := (eval_z 8 (hsz 30 (by decide))).trans (hF.get 8 hn.1)
      have hw := hw0 (putZ a lk3.ns 0 xs) (by rw [putZ_size]; exact hsz 30 (by decide)) eg
      have e0 : (putZ a lk3.ns 0 xs).eval (.tmp 0) = .pointer (some ⟨t, 0, none⟩) := eval_o (xs := xs) (ns := lk3.ns) h0
      exact value_ (v := .pointer (some ⟨t, 0, none⟩)) hw hd (w1 := W) (by simp only [execOp, ho, e0]; go_simp) (hK.out _ _ (hF.now hF.1 rfl))
    · refine step_og (Op.nilCheck (.tmp 36)) (some 37) 8 true 30 [14, 8] lk3.ns (by kernel_rfl) (by kernel_rfl) rfl (by kernel_rfl) (fun o ho hd hw0 l xs W hF hl hn K hK => ?_)
      have eg : (putZ a lk3.ns 0 xs).eval (.tmp 30) = .bool true := (eval_z 8 (hsz 30 (by decide))).trans (hF.get 8 hn.2.1)
      have hw := hw0 (putZ a lk3.ns 0 xs) (by rw [putZ_size]; exact hsz 30 (by decide)) eg
      have e0 : (putZ a lk3.ns 0 xs).eval (.tmp 36) = .pointer (some ⟨t, 0, none⟩) := (eval_z 14 (hsz 36 (by decide))).trans (hF.get 14 hn.1)
      exact value_ (v := .pointer (some ⟨t, 0, none⟩)) hw hd (w1 := W) (by simp only [execOp, ho, e0]; go_simp) (hK.out _ _ (hF.now hF.1 rfl))
    · refine step_og (Op.fieldAddr 82 (.tmp 37) 2) (some 38) 8 true 30 [15, 8] lk3.ns (by kernel_rfl) (by kernel_rfl) rfl (by kernel_rfl) (fun o ho hd hw0 l xs W hF hl hn K hK => ?_)
      have eg : (putZ a lk3.ns 0 xs).eval (.tmp 30) = .bool true := (eval_z 8 (hsz 30 (by decide))).trans (hF.get 8 hn.2.1)
      have hw := hw0 (putZ a lk3.ns 0 xs) (by rw [putZ_size]; exact hsz 30 (by decide)) eg
      have e0 : (putZ a lk3.ns 0 xs).eval (.tmp 37) = .pointer (some ⟨t, 0, none⟩) := (eval_z 15 (hsz 37 (by decide))).trans (hF.get 15 hn.1)
      exact value_ (v := .pointer (some ⟨t, 2, none⟩)) hw hd (w1 := W) (by simp only [execOp, ho, e0]; go_simp) (hK.out _ _ (hF.now hF.1 rfl))
    · refine step_og (Op.fieldAddr 80 (.tmp 38) 0) (some 39) 8 true 30 [16, 8] lk3.ns (by kernel_rfl) (by kernel_rfl) rfl (by kernel_rfl) (fun o ho hd hw0 l xs W hF hl hn K hK => ?_)
      have eg : (putZ a lk3.ns 0 xs).eval (.tmp 30) = .bool true := (eval_z 8 (hsz 30 (by decide))).trans (hF.get 8 hn.2.1)
      have hw := hw0 (putZ a lk3.ns 0 xs) (by rw [putZ_size]; exact hsz 30 (by decide)) eg
      have e0 : (putZ a lk3.ns 0 xs).eval (.tmp 38) = .pointer (some ⟨t, 2, none⟩) := (eval_z 16 (hsz 38 (by decide))).trans (hF.get 16 hn.1)
      exact value_ (v := .pointer (some ⟨t, 2, none⟩)) hw hd (w1 := W) (by simp only [execOp, ho, e0]; go_simp) (hK.out _ _ (hF.now hF.1 rfl))
    · refine step_og (Op.fieldAddr 78 (.tmp 39) 0) (some 40) 8 true 30 [17, 8] lk3.ns (by kernel_rfl) (by kernel_rfl) rfl (by kernel_rfl) (fun o ho hd hw0 l xs W hF hl hn K hK => ?_)
      have eg : (putZ a lk3.ns 0 xs).eval (.tmp 30) = .bool true := (eval_z 8 (hsz 30 (by decide))).trans (hF.get 8 hn.2.1)
      have hw := hw0 (putZ a lk3.ns 0 xs) (by rw [putZ_size]; exact hsz 30 (by decide)) eg
      have e0 : (putZ a lk3.ns 0 xs).eval (.tmp 39) = .pointer (some ⟨t, 2, none⟩) := (eval_z 17 (hsz 39 (by decide))).trans (hF.get 17 hn.1)
      exact value_ (v := .pointer (some ⟨t, 2, none⟩)) hw hd (w1 := W) (by simp only [execOp, ho, e0]; go_simp) (hK.out _ _ (hF.now hF.1 rfl))
    · refine step_og (Op.load 9 (.tmp 40)) (some 41) 8 true 30 [18, 8] lk3.ns (by kernel_rfl) (by kernel_rfl) rfl (by kernel_rfl) (fun o ho hd hw0 l xs W hF hl hn K hK => ?_)
      have eg : (putZ a lk3.ns 0 xs).eval (.tmp 30) = .bool true := (eval_z 8 (hsz 30 (by decide))).trans (hF.get 8 hn.2.1)
      have hw := hw0 (putZ a lk3.ns 0 xs) (by rw [putZ_size]; exact hsz 30 (by decide)) eg
      have e0 : (putZ a lk3.ns 0 xs).eval (.tmp 40) = .pointer (some ⟨t, 2, none⟩) := (eval_z 18 (hsz 40 (by decide))).trans (hF.get 18 hn.1)
      have hc := hF.1.q.a.c2
      exact value_ (v := .string T) hw hd (w1 := W) (by simp only [Act.eval, Array.getD_eq_getD_getElem?] at e0; simp only [execOp, ho]; go_simp) (hK.out _ _ (hF.now hF.1 rfl))
    · refine step_og (Op.binOp .eql 9 (.tmp 35) (.tmp 41) 9) (some 42) 8 true 30 [13, 19, 8] lk3.ns (by kernel_rfl) (by kernel_rfl) rfl (by kernel_rfl) (fun o ho hd hw0 l xs W hF hl hn K hK => ?_)
      have eg : (putZ a lk3.ns 0 xs).eval (.tmp 30) = .bool true := (eval_z 8 (hsz 30 (by decide))).trans (hF.get 8 hn.2.2.1)
      have hw := hw0 (putZ a lk3.ns 0 xs) (by rw [putZ_size]; exact hsz 30 (by decide)) eg
      have e0 : (putZ a lk3.ns 0 xs).eval (.tmp 35) = .string T := (eval_z 13 (hsz 35 (by decide))).trans (hF.get 13 hn.1)
      have e1 : (putZ a lk3.ns 0 xs).eval (.tmp 41) = .string T := (eval_z 19 (hsz 41 (by decide))).trans (hF.get 19 hn.2.1)
      exact value_ (v := .bool true) hw hd (w1 := W) (by simp only [Act.eval, Array.getD_eq_getD_getElem?] at e0 e1; simp only [execOp, ho]; first | (go_simp; done) | (simp [hv1, hx1, hx2, hT1, hT2, hs1]; done)) (hK.out _ _ (hF.now hF.1 rfl))
    · refine step_op (Op.pick (.tmp 30) (.tmp 42) (.const (.bool false))) (some 43) [8, 20] lk3.ns (by kernel_rfl) rfl (by kernel_rfl) (fun o ho hd hw l xs W hF hl hn K hK => ?_)
      have e0 : (putZ a lk3.ns 0 xs).eval (.tmp 30) = .bool true := (eval_z 8 (hsz 30 (by decide))).trans (hF.get 8 hn.1)
      have e1 : (putZ a lk3.ns 0 xs).eval (.tmp 42) = .bool true := (eval_z 20 (hsz 42 (by decide))).trans (hF.get 20 hn.2.1)
      exact value_ (v := .bool true) (hw _) hd (w1 := W) (by simp only [Act.eval, Array.getD_eq_getD_getElem?] at e0 e1; simp only [execOp, ho]; go_simp) (hK.out _ _ (hF.now hF.1 rfl))
    · refine step_op (Op.move (.tmp 43)) (some 44) [21, 13] lk3.ns (by kernel_rfl) rfl (by kernel_rfl) (fun o ho hd hw l xs W hF hl hn K hK => ?_)
      have e0 : (putZ a lk3.ns 0 xs).eval (.tmp 43) = .bool true := (eval_z 21 (hsz 43 (by decide))).trans (hF.get 21 hn.1)
      exact value_ (v := .bool true) (hw _) hd (w1 := W) (by simp only [execOp, ho, e0]; go_simp) (hK.out _ _ (hF.now hF.1 rfl))
    · refine step_og (Op.move (.tmp 0)) (some 45) 22 true 44 [22] lk3.ns (by kernel_rfl) (by kernel_rfl) rfl (by kernel_rfl) (fun o ho hd hw0 l xs W hF hl hn K hK => ?_)
      have eg : (putZ a lk3.ns 0 xs).eval (.tmp 44) = .bool true := (eval_z 22 (hsz 44 (by decide))).trans (hF.get 22 hn.1)
      have hw := hw0 (putZ a lk3.ns 0 xs) (by rw [putZ_size]; exact hsz 44 (by decide)) eg
      have e0 : (putZ a lk3.ns 0 xs).eval (.tmp 0) = .pointer (some ⟨t, 0, none⟩) := eval_o (xs := xs) (ns := lk3.ns) h0
      exact value_ (v := .pointer (some ⟨t, 0, none⟩)) hw hd (w1 := W) (by simp only [execOp, ho, e0]; go_simp) (hK.out _ _ (hF.now hF.1 rfl))
    · refine step_og (Op.nilCheck (.tmp 45)) (some 46) 22 true 44 [23, 22] lk3.ns (by kernel_rfl) (by kernel_rfl) rfl (by kernel_rfl) (fun o ho hd hw0 l xs W hF hl hn K hK => ?_)
      have eg : (putZ a lk3.ns 0 xs).eval (.tmp 44) = .bool true := (eval_z 22 (hsz 44 (by decide))).trans (hF.get 22 hn.2.1)
      have hw := hw0 (putZ a lk3.ns 0 xs) (by rw [putZ_size]; exact hsz 44 (by decide)) eg
      have e0 : (putZ a lk3.ns 0 xs).eval (.tmp 45) = .pointer (some ⟨t, 0, none⟩) := (eval_z 23 (hsz 45 (by decide))).trans (hF.get 23 hn.1)
      exact value_ (v := .pointer (some ⟨t, 0, none⟩)) hw hd (w1 := W) (by simp only [execOp, ho, e0]; go_simp) (hK.out _ _ (hF.now hF.1 rfl))
    · refine step_og (Op.fieldAddr 82 (.tmp 46) 0) (some 47) 22 true 44 [24, 22] lk3.ns (by kernel_rfl) (by kernel_rfl) rfl (by kernel_rfl) (fun o ho hd hw0 l xs W hF hl hn K hK => ?_)
      have eg : (putZ a lk3.ns 0 xs).eval (.tmp 44) = .bool true := (eval_z 22 (hsz 44 (by decide))).trans (hF.get 22 hn.2.1)
      have hw := hw0 (putZ a lk3.ns 0 xs) (by rw [putZ_size]; exact hsz 44 (by decide)) eg
      have e0 : (putZ a lk3.ns 0 xs).eval (.tmp 46) = .pointer (some ⟨t, 0, none⟩) := (eval_z 24 (hsz 46 (by decide))).trans (hF.get 24 hn.1)
      exact value_ (v := .pointer (some ⟨t, 0, none⟩)) hw hd (w1 := W) (by simp only [execOp, ho, e0]; go_simp) (hK.out _ _ (hF.now hF.1 rfl))
    · refine step_og (Op.load 39 (.tmp 47)) (some 48) 22 true 44 [25, 22] lk3.ns (by kernel_rfl) (by kernel_rfl) rfl (by kernel_rfl) (fun o ho hd hw0 l xs W hF hl hn K hK => ?_)
      have eg : (putZ a lk3.ns 0 xs).eval (.tmp 44) = .bool true := (eval_z 22 (hsz 44 (by decide))).trans (hF.get 22 hn.2.1)
      have hw := hw0 (putZ a lk3.ns 0 xs) (by rw [putZ_size]; exact hsz 44 (by decide)) eg
      have e0 : (putZ a lk3.ns 0 xs).eval (.tmp 47) = .pointer (some ⟨t, 0, none⟩) := (eval_z 25 (hsz 47 (by decide))).trans (hF.get 25 hn.1)
      have hc := hF.1.q.a.c0
      exact value_ (v := .pointer (some ⟨g, 0, none⟩)) hw hd (w1 := W) (by simp only [Act.eval, Array.getD_eq_getD_getElem?] at e0; simp only [execOp, ho]; go_simp) (hK.out _ _ (hF.now hF.1 rfl))
    · refine step_og (Op.call { callee := .value (.func 26), args := #[.tmp 48], argTypes := #[39] }) (some 49) 22 true 44 [26, 22, 22] lk3.ns (by kernel_rfl) (by kernel_rfl) rfl (by kernel_rfl) (fun o ho hd hw0 l xs W hF hl hn K hK => ?_)
      have eg : (putZ a lk3.ns 0 xs).eval (.tmp 44) = .bool true := (eval_z 22 (hsz 44 (by decide))).trans (hF.get 22 hn.2.1)
      have hw := hw0 (putZ a lk3.ns 0 xs) (by rw [putZ_size]; exact hsz 44 (by decide)) eg
      have e0 : (putZ a lk3.ns 0 xs).eval (.tmp 48) = .pointer (some ⟨g, 0, none⟩) := (eval_z 26 (hsz 48 (by decide))).trans (hF.get 26 hn.1)
      refine goes_ Try.func26 (by kernel_rfl) rfl #[.pointer (some ⟨g, 0, none⟩)] hw hd ho (by simp only [List.map_toArray, List.map_cons, List.map_nil, e0]) ?_
      refine (safe_dk hF.1.q.a.d).mono ?_
      rintro e W' ⟨rfl, rfl⟩
      exact ⟨_, rfl, hK.out _ _ (hF.up (hF.1) (fun j v _ _ h => lk3.any j h) rfl)⟩
    · refine step_og (Op.move (.tmp 0)) (some 50) 22 true 44 [22] lk3.ns (by kernel_rfl) (by kernel_rfl) rfl (by kernel_rfl) (fun o ho hd hw0 l xs W hF hl hn K hK => ?_)
      have eg : (putZ a lk3.ns 0 xs).eval (.tmp 44) = .bool true := (eval_z 22 (hsz 44 (by decide))).trans (hF.get 22 hn.1)
      have hw := hw0 (putZ a lk3.ns 0 xs) (by rw [putZ_size]; exact hsz 44 (by decide)) eg
      have e0 : (putZ a lk3.ns 0 xs).eval (.tmp 0) = .pointer (some ⟨t, 0, none⟩) := eval_o (xs := xs) (ns := lk3.ns) h0
      exact value_ (v := .pointer (some ⟨t, 0, none⟩)) hw hd (w1 := W) (by simp only [execOp, ho, e0]; go_simp) (hK.out _ _ (hF.now hF.1 rfl))
    · refine step_og (Op.nilCheck (.tmp 50)) (some 51) 22 true 44 [28, 22] lk3.ns (by kernel_rfl) (by kernel_rfl) rfl (by kernel_rfl) (fun o ho hd hw0 l xs W hF hl hn K hK => ?_)
      have eg : (putZ a lk3.ns 0 xs).eval (.tmp 44) = .bool true := (eval_z 22 (hsz 44 (by decide))).trans (hF.get 22 hn.2.1)
      have hw := hw0 (putZ a lk3.ns 0 xs) (by rw [putZ_size]; exact hsz 44 (by decide)) eg
      have e0 : (putZ a lk3.ns 0 xs).eval (.tmp 50) = .pointer (some ⟨t, 0, none⟩) := (eval_z 28 (hsz 50 (by decide))).trans (hF.get 28 hn.1)
      exact value_ (v := .pointer (some ⟨t, 0, none⟩)) hw hd (w1 := W) (by simp only [execOp, ho, e0]; go_simp) (hK.out _ _ (hF.now hF.1 rfl))
    · refine step_og (Op.fieldAddr 82 (.tmp 51) 2) (some 52) 22 true 44 [29, 22] lk3.ns (by kernel_rfl) (by kernel_rfl) rfl (by kernel_rfl) (fun o ho hd hw0 l xs W hF hl hn K hK => ?_)
      have eg : (putZ a lk3.ns 0 xs).eval (.tmp 44) = .bool true := (eval_z 22 (hsz 44 (by decide))).trans (hF.get 22 hn.2.1)
      have hw := hw0 (putZ a lk3.ns 0 xs) (by rw [putZ_size]; exact hsz 44 (by decide)) eg
      have e0 : (putZ a lk3.ns 0 xs).eval (.tmp 51) = .pointer (some ⟨t, 0, none⟩) := (eval_z 29 (hsz 51 (by decide))).trans (hF.get 29 hn.1)
      exact value_ (v := .pointer (some ⟨t, 2, none⟩)) hw hd (w1 := W) (by simp only [execOp, ho, e0]; go_simp) (hK.out _ _ (hF.now hF.1 rfl))
    · refine step_og (Op.fieldAddr 80 (.tmp 52) 0) (some 53) 22 true 44 [30, 22] lk3.ns (by kernel_rfl) (by kernel_rfl) rfl (by kernel_rfl) (fun o ho hd hw0 l xs W hF hl hn K hK => ?_)
      have eg : (putZ a lk3.ns 0 xs).eval (.tmp 44) = .bool true := (eval_z 22 (hsz 44 (by decide))).trans (hF.get 22 hn.2.1)
      have hw := hw0 (putZ a lk3.ns 0 xs) (by rw [putZ_size]; exact hsz 44 (by decide)) eg
      have e0 : (putZ a lk3.ns 0 xs).eval (.tmp 52) = .pointer (some ⟨t, 2, none⟩) := (eval_z 30 (hsz 52 (by decide))).trans (hF.get 30 hn.1)
      exact value_ (v := .pointer (some ⟨t, 2, none⟩)) hw hd (w1 := W) (by simp only [execOp, ho, e0]; go_simp) (hK.out _ _ (hF.now hF.1 rfl))
    · refine step_og (Op.fieldAddr 78 (.tmp 53) 2) (some 54) 22 true 44 [31, 22] lk3.ns (by kernel_rfl) (by kernel_rfl) rfl (by kernel_rfl) (fun o ho hd hw0 l xs W hF hl hn K hK => ?_)
      have eg : (putZ a lk3.ns 0 xs).eval (.tmp 44) = .bool true := (eval_z 22 (hsz 44 (by decide))).trans (hF.get 22 hn.2.1)
      have hw := hw0 (putZ a lk3.ns 0 xs) (by rw [putZ_size]; exact hsz 44 (by decide)) eg
      have e0 : (putZ a lk3.ns 0 xs).eval (.tmp 53) = .pointer (some ⟨t, 2, none⟩) := (eval_z 31 (hsz 53 (by decide))).trans (hF.get 31 hn.1)
      exact value_ (v := .pointer (some ⟨t, 4, none⟩)) hw hd (w1 := W) (by simp only [execOp, ho, e0]; go_simp) (hK.out _ _ (hF.now hF.1 rfl))
    · refine step_og (Op.load 3 (.tmp 54)) (some 55) 22 true 44 [32, 22] lk3.ns (by kernel_rfl) (by kernel_rfl) rfl (by kernel_rfl) (fun o ho hd hw0 l xs W hF hl hn K hK => ?_)
      have eg : (putZ a lk3.ns 0 xs).eval (.tmp 44) = .bool true := (eval_z 22 (hsz 44 (by decide))).trans (hF.get 22 hn.2.1)
      have hw := hw0 (putZ a lk3.ns 0 xs) (by rw [putZ_size]; exact hsz 44 (by decide)) eg
      have e0 : (putZ a lk3.ns 0 xs).eval (.tmp 54) = .pointer (some ⟨t, 4, none⟩) := (eval_z 32 (hsz 54 (by decide))).trans (hF.get 32 hn.1)
      have hc := hF.1.q.a.c4
      exact value_ (v := .int .i64 safe) hw hd (w1 := W) (by simp only [Act.eval, Array.getD_eq_getD_getElem?] at e0; simp only [execOp, ho]; go_simp) (hK.out _ _ (hF.now hF.1 rfl))
    · refine step_og (Op.binOp .eql 3 (.tmp 49) (.tmp 55) 3) (some 56) 22 true 44 [27, 33, 22] lk3.ns (by kernel_rfl) (by kernel_rfl) rfl (by kernel_rfl) (fun o ho hd hw0 l xs W hF hl hn K hK => ?_)
      have eg : (putZ a lk3.ns 0 xs).eval (.tmp 44) = .bool true := (eval_z 22 (hsz 44 (by decide))).trans (hF.get 22 hn.2.2.1)
      have hw := hw0 (putZ a lk3.ns 0 xs) (by rw [putZ_size]; exact hsz 44 (by decide)) eg
      have e0 : (putZ a lk3.ns 0 xs).eval (.tmp 49) = .int .i64 safe := (eval_z 27 (hsz 49 (by decide))).trans (hF.get 27 hn.1)
      have e1 : (putZ a lk3.ns 0 xs).eval (.tmp 55) = .int .i64 safe := (eval_z 33 (hsz 55 (by decide))).trans (hF.get 33 hn.2.1)
      exact value_ (v := .bool true) hw hd (w1 := W) (by simp only [Act.eval, Array.getD_eq_getD_getElem?] at e0 e1; simp only [execOp, ho]; first | (go_simp; done) | (simp [hv1, hx1, hx2, hT1, hT2, hs1]; done)) (hK.out _ _ (hF.now hF.1 rfl))
    · refine step_op (Op.pick (.tmp 44) (.tmp 56) (.const (.bool false))) (some 57) [22, 34] lk3.ns (by kernel_rfl) rfl (by kernel_rfl) (fun o ho hd hw l xs W hF hl hn K hK => ?_)
      have e0 : (putZ a lk3.ns 0 xs).eval (.tmp 44) = .bool true := (eval_z 22 (hsz 44 (by decide))).trans (hF.get 22 hn.1)
      have e1 : (putZ a lk3.ns 0 xs).eval (.tmp 56) = .bool true := (eval_z 34 (hsz 56 (by decide))).trans (hF.get 34 hn.2.1)
      exact value_ (v := .bool true) (hw _) hd (w1 := W) (by simp only [Act.eval, Array.getD_eq_getD_getElem?] at e0 e1; simp only [execOp, ho]; go_simp) (hK.out _ _ (hF.now hF.1 rfl))
    · refine step_op (Op.assign (.tmp 57)) (some 2) [35, 27, 0, 1, 2, 3, 4, 5, 6, 7, 8, 9, 10, 11, 12, 13, 14, 15, 16, 17, 18, 19, 20, 21, 22, 23, 24, 25, 26, 27, 28, 29, 30, 31, 32, 33, 34, 35] lk3.ns (by kernel_rfl) rfl (by kernel_rfl) (fun o ho hd hw l xs W hF hl hn K hK => ?_)
      have e0 : (putZ a lk3.ns 0 xs).eval (.tmp 57) = .bool true := (eval_z 35 (hsz 57 (by decide))).trans (hF.get 35 hn.1)
      exact value_ (v := .bool true) (hw _) hd (w1 := W) (by simp only [execOp, ho, e0]; go_simp) (hK.out _ _ (hF.now hF.1 rfl))
set_option maxHeartbeats 1000000 in
set_option maxRecDepth 100000 in
theorem looks_calls {B : Nat} {f : Nat → Prop} {W0 W : World} {t g j : Nat} {v : Value} {room safe ver : Int} {T txt : ByteArray} {L : Value} {es : List S23} (h : Aq B f W0 W t g j v room safe ver T txt L es) :
    Calls Try.prog 42 #[.pointer (some ⟨t, 0, none⟩)] W fun e W' => e = .returned (.bool true) ∧ Aq B f W0 W' t g j v room safe ver T txt L es := by
  obtain ⟨any, hany⟩ : ∃ any, any = decide (0 < es.length) := ⟨_, rfl⟩
  have H := Lib.hid h
  have HLA := Lib.hid (jlast h.a.jn)
  have HRL := Lib.hid (fun (W' : World) (h : Al B f W' t g j v room safe ver T txt L es) => h.rlast)
  have HBY := Lib.hid (fun (W' : World) (h : Dk W' B g v room safe T) => bytes_dk h)
  have HSF := Lib.hid (fun (W' : World) (h : Dk W' B g v room safe T) => safe_dk h)
  rw [← hany] at HLA HRL
  clear hany
  have mixed := mixed
  have c1 := h.a.c1
  clear h
  go_enter Try.func42, Try.ntmps42
  go_upto_region 3 with (first
    | (go_at_call 46; refine HLA.out.mono ?_; rintro e w1 ⟨rfl, hb⟩; have H1 := Lib.hid (H.out.below hb); clear hb)
    | ((with_reducible refine gate_dst (N := 3) rfl ?_); go_loud (refine box_event rfl (N := 3) rfl (cs := #[.int .i64 0, .string ⟨#[]⟩]) (t := 23) ?hr ?_; (case hr => first | (go_simp; done) | (go_simp; rfl))); intro b3 hg_ w2 hb2 hB2; have HL := Lib.hid (show w1.heap.size ≤ b3 from by rw [hg_]; exact Nat.le_refl _); clear hg_; have HB2 := Lib.hid hB2; have K2 := Lib.hid hb2; clear hb2 hB2)
    | ((with_reducible refine gate_ (.store 23 (.tmp 3) (.tmp 13)) rfl ?_); go_loud (refine bstore (t := 23) (p := 3) (v := .tmp 13) rfl rfl rfl b3 _ #[.int .i64 ver, .string txt] (.agg #[.int .i64 ver, .string txt]) rfl rfl rfl K2.out (by kernel_rfl) rfl (by simp [Value.oneCell']) ?_); intro w4 hb4 hs4 hz4 hB4; have K4 := Lib.hid hb4; have H4 := Lib.hid (H1.out.below (HB2.out.trans (hB4 _ HL.out))); clear hb4 hs4 hz4 hB4 c1)
    | (go_at_call 63; refine (HRL.out _ H4.out.a).mono ?_; rintro e w5 ⟨rfl, hb⟩; have H5 := Lib.hid (H4.out.below hb); have K5 := Lib.hid ((hb.block _ (lt_blk K4.out)).trans K4.out); clear hb)
    | ((with_reducible refine gate_dst (N := 5) rfl ?_); go_loud (refine box_event rfl (N := 5) rfl (cs := #[.int .i64 0, .string ⟨#[]⟩]) (t := 23) ?hr ?_; (case hr => first | (go_simp; done) | (go_simp; rfl))); intro b5 hg_ w6 hb6 hB6; have HL6 := Lib.hid (show w5.heap.size ≤ b5 from by rw [hg_]; exact Nat.le_refl _); clear hg_; have HB6 := Lib.hid hB6; have K6 := Lib.hid hb6; clear hb6 hB6)
    | ((with_reducible refine gate_ (.store 23 (.tmp 5) (.tmp 20)) rfl ?_); go_loud (refine bstore (t := 23) (p := 5) (v := .tmp 20) rfl rfl rfl b5 _ #[.int .i64 ver, .string txt] (.agg #[.int .i64 ver, .string txt]) rfl rfl rfl K6.out (by kernel_rfl) rfl (by simp [Value.oneCell']) ?_); intro w8 hb8 hs8 hz8 hB8; have hb := HB6.out.trans (hB8 _ HL6.out); have HK := Lib.hid (Ak.mk (H5.out.below hb) ((hb.block _ (lt_blk K5.out)).trans K5.out) hb8); clear hb hb8 hs8 hz8 hB8))
  refine lk3.region B f W0 t g j b3 b5 v room safe ver T txt L es any HK.out mixed rfl rfl rfl rfl rfl rfl ?_
  rintro xs W' hI h36
  simp only [putZ, Act.put, List.setIfInBounds_toArray, List.set_cons_zero, List.set_cons_succ, Nat.reduceAdd]
  rw [h36]
  have HI := Lib.hid hI
  clear hI
  go_wp2_with fail
  go_ret
  exact ⟨rfl, HI.out.q⟩
end Go.Proofs.Ytcoodlncjnekoaa.F
