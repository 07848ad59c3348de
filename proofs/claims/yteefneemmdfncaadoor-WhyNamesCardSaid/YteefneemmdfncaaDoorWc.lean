import Derived.Test.YteefneemmdfncaaDoorWf
import Derived.Test.YteefneemmdfncaaDoorPE
import Derived.Test.YteefneemmdfncaaDoorWb
/- why.by's lists as new blocks alone: they stand behind the store into the reason. Conditions: each theorem's own. -/
namespace Go.Proofs.YteefneemmdfncaaDoor.M
open Go.RowKit Go.Proofs.YteefneemmdfncaaDoorW.Raw Go.Proofs.YteefneemmdfncaaDoorW.PrintWords Go.Proofs.YteefneemmdfncaaDoorW.PrintLast Go.Proofs.YteefneemmdfncaaDoorW.PrintAll Go.Proofs.YteefneemmdfncaaDoor.F
set_option linter.unusedVariables false
set_option linter.unusedSimpArgs false
/-- A list of pairs in blocks from B on. -/
def PaR (B : Nat) (l : List S97) (v : Value) (W : World) : Prop := Kd.R k97 97 W B (fun _ => True) v l
/-- A list of texts in blocks from B on. -/
def SsR (B : Nat) (l : List ByteArray) (v : Value) (W : World) : Prop := Kd.R Kd.string 9 W B (fun _ => True) v l
theorem PaR.mono {B : Nat} {l : List S97} {v : Value} {W W' : World} (h : PaR B l v W) (hb : Below W.heap.size W W') : PaR B l v W' := Kd.R_below h hb
theorem SsR.mono {B : Nat} {l : List ByteArray} {v : Value} {W W' : World} (h : SsR B l v W) (hb : Below W.heap.size W W') : SsR B l v W' := Kd.R_below h hb
theorem r_away2 {α : Type} {d : Kd α} {e : Nat} {W W' : World} {B b : Nat} {v : Value} {l : List α} (h : Kd.R d e W B (fun _ => True) v l) (hb : b < B) (ho : ∀ i, i ≠ b → W'.heap[i]? = W.heap[i]?) : Kd.R d e W' B (fun _ => True) v l :=
  Kd.R_mono (Kd.R_step (Kd.R_bound h) (fun k hk _ => ho k (by have := hk.2.1; omega))) (fun _ _ => trivial)
theorem PaR.away {B b : Nat} {l : List S97} {v : Value} {W W' : World} (h : PaR B l v W) (hb : b < B) (ho : ∀ i, i ≠ b → W'.heap[i]? = W.heap[i]?) : PaR B l v W' := r_away2 h hb ho
theorem SsR.away {B b : Nat} {l : List ByteArray} {v : Value} {W W' : World} (h : SsR B l v W) (hb : b < B) (ho : ∀ i, i ≠ b → W'.heap[i]? = W.heap[i]?) : SsR B l v W' := r_away2 h hb ho
theorem PaR.open {B : Nat} {l : List S97} {v : Value} {W : World} (h : PaR B l v W) : ∃ A c, v = .slice A l.length c ∧ l.length ≤ c ∧ Kd.C k97 W A l.length l := by
  obtain ⟨A, c, e, h1, h2⟩ := Kd.R_reads h
  exact ⟨A, c, e, h1, h2⟩
theorem SsR.open {B : Nat} {l : List ByteArray} {v : Value} {W : World} (h : SsR B l v W) : ∃ A c, v = .slice A l.length c ∧ l.length ≤ c ∧ Kd.C Kd.string W A l.length l := by
  obtain ⟨A, c, e, h1, h2⟩ := Kd.R_reads h
  exact ⟨A, c, e, h1, h2⟩
theorem whos_r (p : Pol) (C0 : Array Value) (B : Nat) (w : World) (hB : B ≤ w.heap.size) (hk : k28.K w p C0.toList) (hn : p.f5.length + p.f6.length ≤ 16777215) :
    Calls Tryd.prog 54 #[.agg C0] w fun e W => ∃ v, e = .returned v ∧ PaR B (p.f5 ++ p.f6) v W ∧ Below w.heap.size w W :=
  (whos_calls p C0 w hk hn).mono fun e W h => by
    obtain ⟨A, c, he, hR, hb⟩ := h
    exact ⟨_, he, Kd.R_lower hR hB, hb⟩
theorem whats_r (p : Pol) (C0 : Array Value) (B : Nat) (w : World) (hB : B ≤ w.heap.size) (hk : k28.K w p C0.toList) (hn : p.f7.length + p.f8.length ≤ 16777215) :
    Calls Tryd.prog 55 #[.agg C0] w fun e W => ∃ v, e = .returned v ∧ PaR B (p.f7 ++ p.f8) v W ∧ Below w.heap.size w W :=
  (whats_calls p C0 w hk hn).mono fun e W h => by
    obtain ⟨A, c, he, hR, hb⟩ := h
    exact ⟨_, he, Kd.R_lower hR hB, hb⟩
theorem path_r (ps : List S97) (A : Option Addr) (c B : Nat) (frm tt : ByteArray) (w : World) (hB : B ≤ w.heap.size) (hc : ps.length ≤ c) (hr : Kd.C k97 w A ps.length ps) (hn : ps.length ≤ 4194304) :
    Calls Tryd.prog 80 #[.slice A ps.length c, .string frm, .string tt] w fun e W => ∃ v, e = .returned v ∧ SsR B (pathL ps frm tt) v W ∧ Below w.heap.size w W :=
  (path_calls ps A c frm tt w hc hr hn).mono fun e W h => by
    obtain ⟨v, he, hR, hb⟩ := h
    exact ⟨v, he, Kd.R_lower hR hB, hb⟩
end Go.Proofs.YteefneemmdfncaaDoor.M
/- A way that was found leads, and none is shorter. Conditions: each theorem's own. -/
namespace Go.Proofs.YteefneemmdfncaaDoor.M
open Go.RowKit Go.Proofs.YteefneemmdfncaaDoorW.Raw Go.Proofs.YteefneemmdfncaaDoorW.PrintWords Go.Proofs.YteefneemmdfncaaDoor.F
set_option linter.unusedVariables false
section
variable {ps : List Pair} {frm : ByteArray}
end
/-- One behind the other along pairs. -/
def chainB (ps : List Pair) : List ByteArray → Bool
  | a :: b :: l => (ps.any fun p => p.f0 == a && p.f1 == b) && chainB ps (b :: l)
  | _ => true
/-- Names lead from one to another. -/
def WayP (ps : List Pair) (l : List ByteArray) (a b : ByteArray) : Prop := l.head? = some a ∧ l.getLast? = some b ∧ chainB ps l = true
end Go.Proofs.YteefneemmdfncaaDoor.M
/- why.known, walked. Conditions: the policy reads as it must. -/
namespace Go.Proofs.YteefneemmdfncaaDoor.M
open Go.RowKit Go.Proofs.YteefneemmdfncaaDoorW.Raw Go.Proofs.YteefneemmdfncaaDoorW.PrintWords Go.Proofs.YteefneemmdfncaaDoor.F
set_option linter.unusedVariables false
set_option linter.unusedSimpArgs false
theorem eqB3 (d : Nat) (w : World) (a b c : Bool) : (Op.equalIn (d + 2) 63 (.agg #[.bool a, .bool b, .bool c]) (.agg #[.bool true, .bool true, .bool true])).run Tryd.prog w = .ok (a && (b && c)) w := by
  cases a <;> cases b <;> cases c <;> kernel_rfl
attribute [local go_sem high] eqB3
/-- Are all three names there? -/
def knownB (p : Pol) (t : Tri) : Bool := nameB p.f1 t.f0 && (memB p.f3 t.f1 && memB p.f0 t.f2)
set_option maxRecDepth 100000 in
set_option maxHeartbeats 4000000 in
theorem known_calls (p : Pol) (C0 : Array Value) (t : Tri) (w : World) (hk : k28.K w p C0.toList) :
    Calls Tryd.prog 50 #[.agg C0, .agg #[.string t.f0, .string t.f1, .string t.f2]] w fun e w' => e = .returned (.bool (knownB p t)) ∧ Below w.heap.size w w' := by
  have HK := Lib.hid hk
  have HSP := Lib.hid (pol_size hk)
  obtain ⟨CA, hCA⟩ : ∃ C, C = C0 := ⟨_, rfl⟩
  have HT : ∀ W, Below w.heap.size w W → Calls Tryd.prog 38 #[.agg C0, .agg #[.string t.f0, .string t.f1, .string t.f2]] W fun e w' => e = .returned (.agg #[.bool (nameB p.f1 t.f0), .bool (memB p.f3 t.f1), .bool (memB p.f0 t.f2)]) ∧ Below W.heap.size W w' := fun W hW => there_calls p C0 t W (k28.K_below hW HK.out)
  have HT2 := Lib.hid HT
  unfold knownB
  clear hk HT
  revert HT2
  generalize nameB p.f1 t.f0 = a
  generalize memB p.f3 t.f1 = b
  generalize memB p.f0 t.f2 = c
  intro HT2
  cases a <;> cases b <;> cases c
  all_goals
    go_enter Tryd.func50, Tryd.ntmps50
    go_wp2_with (first | ((with_reducible refine gate_dst (N := 2) rfl ?_); refine box_event ?hg (N := 2) ?hd (cs := C0) (t := 28) ?hr ?_; (case hd => rfl); (case hg => rfl); (case hr => first | (go_simp; done) | (go_simp; rfl)); intro b2 hg_ w1 hb2 hB1; clear hg_; have BW1 := Lib.hid hB1; have K2 := Lib.hid hb2; clear hb2 hB1) | ((with_reducible refine gate_dst (N := 3) rfl ?_); refine box_event ?hg (N := 3) ?hd (cs := #[.string t.f0, .string t.f1, .string t.f2]) (t := 30) ?hr ?_; (case hd => rfl); (case hg => rfl); (case hr => first | (go_simp; done) | (go_simp; rfl)); intro b3 hg_ w2 hb3 hB2; clear hg_; have K22 := Lib.hid (blk_below K2.out hB2); have BW2 := Lib.hid (BW1.out.trans (hB2.mono BW1.out.size)); have K3 := Lib.hid hb3; clear hb3 hB2) | ((with_reducible refine gate_ (.load 28 (.tmp 2)) rfl ?_); go_must (refine wpList_load_row rfl 28 (.tmp 2) rfl b2 rfl _ _ _ _ K22.out Tryd.underlying28 rfl HSP.out ?_)) | ((with_reducible refine gate_ (.load 30 (.tmp 3)) rfl ?_); go_must (refine wpList_load_row rfl 30 (.tmp 3) rfl b3 rfl _ _ _ _ K3.out Tryd.underlying30 rfl (by kernel_rfl) ?_)) | (go_at_call 38; go_must (refine (HT2.out _ BW2.out).mono ?_); rintro e w4 ⟨rfl, hb⟩; have BW4 := Lib.hid (BW2.out.trans (hb.mono BW2.out.size)); clear hb))
    go_ret
    exact ⟨rfl, BW4.out⟩
end Go.Proofs.YteefneemmdfncaaDoor.M
