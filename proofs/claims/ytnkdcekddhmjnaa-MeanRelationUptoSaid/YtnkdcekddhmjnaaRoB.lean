import Derived.Test.YtnkdcekddhmjnaaRoA
import Derived.Test.YtnkdcekddhmjnaaSC
/- roomy, walked: a policy whose lists have a mark behind them, and the same lists without it. Conditions: the policy reads as it must, and no list is longer than 1048576. -/
namespace Go.Proofs.Ytnkdcekddhmjnaa.M
open Go.RowKit Go.Proofs.YtnkdcekddhmjnaaW.Raw Go.Proofs.YtnkdcekddhmjnaaW.PrintWords Go.Proofs.YtnkdcekddhmjnaaW.PrintLast Go.Proofs.YtnkdcekddhmjnaaW.PrintAll Go.Proofs.Ytnkdcekddhmjnaa.F
set_option linter.unusedVariables false
abbrev mSub : Sub := ⟨mark, 0⟩
abbrev mPair : Pair := ⟨mark, ⟨#[]⟩⟩
abbrev mRule : Rule := ⟨false, mark, ⟨#[]⟩, [], 0, 0⟩
abbrev mTri : Tri := ⟨mark, ⟨#[]⟩, ⟨#[]⟩⟩
abbrev fullP (p : Pol) : Pol := ⟨p.f0 ++ [mark], p.f1 ++ [mSub], p.f2 ++ [mark], p.f3 ++ [mark], p.f4 ++ [mark], p.f5 ++ [mPair], p.f6 ++ [mPair], p.f7 ++ [mPair], p.f8 ++ [mPair], p.f9 ++ [mRule], p.f10 ++ [mTri]⟩
abbrev actsM (l : List Rule) : List (List ByteArray) := l.map fun r => r.f3 ++ [mark]
/-- What stays as it is: the two boxes, and the rows of names and of pairs. -/
structure RoS (w0 : World) (b1 b2 : Nat) (cb cz : Array Value) (l0 l2 l3 l4 : List ByteArray) (l5 l6 l7 l8 : List Pair) (v0 v2 v3 v4 v5 v6 v7 v8 : Value) (W : World) : Prop where
  h1 : W.heap[b1]? = some (Obj.cells cb 34 (0, 0))
  h2 : W.heap[b2]? = some (Obj.cells cz 39 (0, 0))
  bel : Below w0.heap.size w0 W
  r0 : Kd.R Kd.string 9 W w0.heap.size (fun _ => True) v0 l0
  r2 : Kd.R Kd.string 9 W w0.heap.size (fun _ => True) v2 l2
  r3 : Kd.R Kd.string 9 W w0.heap.size (fun _ => True) v3 l3
  r4 : Kd.R Kd.string 9 W w0.heap.size (fun _ => True) v4 l4
  r5 : Kd.R k86 86 W w0.heap.size (fun _ => True) v5 l5
  r6 : Kd.R k86 86 W w0.heap.size (fun _ => True) v6 l6
  r7 : Kd.R k86 86 W w0.heap.size (fun _ => True) v7 l7
  r8 : Kd.R k86 86 W w0.heap.size (fun _ => True) v8 l8
section
variable {w0 : World} {b1 b2 : Nat} {cb cz : Array Value} {l0 l2 l3 l4 : List ByteArray} {l5 l6 l7 l8 : List Pair} {v0 v2 v3 v4 v5 v6 v7 v8 : Value} {W W' : World}
theorem RoS.move (h : RoS w0 b1 b2 cb cz l0 l2 l3 l4 l5 l6 l7 l8 v0 v2 v3 v4 v5 v6 v7 v8 W) (e1 : W'.heap[b1]? = W.heap[b1]?) (e2 : W'.heap[b2]? = W.heap[b2]?) (hb : Below w0.heap.size w0 W') (ht : TS [9, 86] W W') : RoS w0 b1 b2 cb cz l0 l2 l3 l4 l5 l6 l7 l8 v0 v2 v3 v4 v5 v6 v7 v8 W' :=
  ⟨e1.trans h.h1, e2.trans h.h2, hb, R_ts h.r0 ht (by decide), R_ts h.r2 ht (by decide), R_ts h.r3 ht (by decide), R_ts h.r4 ht (by decide), R_ts h.r5 ht (by decide), R_ts h.r6 ht (by decide), R_ts h.r7 ht (by decide), R_ts h.r8 ht (by decide)⟩
theorem RoS.below (h : RoS w0 b1 b2 cb cz l0 l2 l3 l4 l5 l6 l7 l8 v0 v2 v3 v4 v5 v6 v7 v8 W) (hb : Below W.heap.size W W') : RoS w0 b1 b2 cb cz l0 l2 l3 l4 l5 l6 l7 l8 v0 v2 v3 v4 v5 v6 v7 v8 W' :=
  h.move (hb.block _ (blk_lt h.h1)) (hb.block _ (blk_lt h.h2)) (h.bel.trans (hb.mono h.bel.size)) (TS.below hb)
theorem RoS.grown (h : RoS w0 b1 b2 cb cz l0 l2 l3 l4 l5 l6 l7 l8 v0 v2 v3 v4 v5 v6 v7 v8 W) {row : Option Nat} (e : Nat) (hg : W.grownBy W' row) (hr : ∀ k, row = some k → ∃ cs, W.heap[k]? = some (Obj.cells cs e (0, 0))) (hb : Below w0.heap.size w0 W') (he : e ≠ 9 ∧ e ≠ 86 ∧ e ≠ 34 ∧ e ≠ 39) : RoS w0 b1 b2 cb cz l0 l2 l3 l4 l5 l6 l7 l8 v0 v2 v3 v4 v5 v6 v7 v8 W' :=
  h.move (hg.block _ (blk_lt h.h1) (fun e2 => by
    obtain ⟨cs, hcs⟩ := hr _ e2.symm
    rw [h.h1] at hcs
    injection hcs with hcs
    injection hcs with _ h2 _
    exact he.2.2.1 h2.symm)) (hg.block _ (blk_lt h.h2) (fun e2 => by
    obtain ⟨cs, hcs⟩ := hr _ e2.symm
    rw [h.h2] at hcs
    injection hcs with hcs
    injection hcs with _ h2 _
    exact he.2.2.2 h2.symm)) hb (TS.grown hg hr (by
    intro q hq
    simp only [List.mem_cons, List.not_mem_nil, or_false] at hq
    rcases hq with rfl | rfl
    · exact fun e => he.1 e.symm
    · exact fun e => he.2.1 e.symm))
theorem RoS.put (h : RoS w0 b1 b2 cb cz l0 l2 l3 l4 l5 l6 l7 l8 v0 v2 v3 v4 v5 v6 v7 v8 W) {g : Nat} {t : Nat} {cs : Array Value} (hg : W.heap[g]? = some (Obj.cells cs t (0, 0))) (hB : w0.heap.size ≤ g) (n1 : b1 ≠ g) (n2 : b2 ≠ g) (ht : t ≠ 9 ∧ t ≠ 86) (j : Nat) (u : Value) : RoS w0 b1 b2 cb cz l0 l2 l3 l4 l5 l6 l7 l8 v0 v2 v3 v4 v5 v6 v7 v8 (W.setCell ⟨g, j, none⟩ u) :=
  h.move (Below.heap_setCell W _ u b1 n1) (Below.heap_setCell W _ u b2 n2) (h.bel.setCell hB _) (TS.set hg (by
    intro q hq
    simp only [List.mem_cons, List.not_mem_nil, or_false] at hq
    rcases hq with rfl | rfl
    · exact fun e => ht.1 e.symm
    · exact fun e => ht.2 e.symm) j u)
end
theorem blk_gts {W W' : World} {g t e : Nat} {cs : Array Value} {row : Option Nat} (h : W.heap[g]? = some (Obj.cells cs t (0, 0))) (hg : W.grownBy W' row) (hr : ∀ k, row = some k → ∃ cs, W.heap[k]? = some (Obj.cells cs e (0, 0))) (hne : t ≠ e) : W'.heap[g]? = some (Obj.cells cs t (0, 0)) := blk_grown h hg (fun e2 => by
  obtain ⟨cs, hcs⟩ := hr _ e2.symm
  rw [h] at hcs
  injection hcs with hcs
  injection hcs with _ h2 _
  exact hne h2)
theorem nil_row {W : World} {e : Nat} : ∀ k, (Value.slice none 0 0).ownBlock = some k → ∃ cs, W.heap[k]? = some (Obj.cells cs e (0, 0)) := fun k hk => by simp [Value.ownBlock] at hk
theorem cutR {α : Type} {d : Kd α} {W : World} {e B y : Nat} {ok : Nat → Prop} {X : Option Addr} {L l m : List α} (h : d.R e W B ok (.slice X L.length y) L) (hL : L = l ++ m) : l.length ≤ y ∧ d.C W X l.length l := by
  subst hL
  have h2 := Kd.R_take h (m := l.length) (by simp)
  rw [List.take_left] at h2
  exact ⟨(Kd.R_reads' h2).2.1, (Kd.R_reads' h2).2.2⟩
theorem size39r : (Try.prog.info? 39).map (·.size) = some 23 := by kernel_rfl
theorem size27r : (Try.prog.info? 27).map (·.size) = some 6 := by kernel_rfl
theorem info25r : (Try.prog.info? 25).map (fun i => (i.zero, i.size, i.bytes)) = some (some (.slice none 0 0), 1, 24) := by kernel_rfl
theorem ne_typed {W : World} {v : Value} {k e t : Nat} (h : ∃ cs, W.heap[k]? = some (Obj.cells cs t (0, 0))) (hv : ∀ k, v.ownBlock = some k → ∃ cs, W.heap[k]? = some (Obj.cells cs e (0, 0))) (hne : t ≠ e) : some k ≠ v.ownBlock := fun e2 => by
  obtain ⟨cs, h⟩ := h
  obtain ⟨cs2, h2⟩ := hv k e2.symm
  rw [h] at h2
  injection h2 with h2
  injection h2 with _ h2 _
  exact hne h2
theorem R_in {W : World} {base : Nat} {v : Value} {l : List ByteArray} (h : Kd.R Kd.string 9 W base (fun _ => True) v l) : Kd.R Kd.string 9 W base (fun k_ => ∃ cs, W.heap[k_]? = some (Obj.cells cs 9 (0, 0))) v l :=
  Kd.R_mono (Kd.R_bound h) (fun k hk => by
    obtain ⟨-, -, -, q, hq, cs, hc⟩ := hk
    have : q = 9 := by simpa [Kd.string, Kd.scalar] using hq
    exact ⟨cs, this ▸ hc⟩)
end Go.Proofs.Ytnkdcekddhmjnaa.M
