/- An index's All: the iterator that it hands back, and what that iterator gives. Conditions: each theorem's own. -/
import Derived.Test.YtaeijlkogenblaaIxS
import Derived.RangeFuncBox
import Derived.RangeFuncLeaves
import Derived.Shelf.Abstract
import Derived.WalkKit
import Derived.OwnWalkIn
import Derived.TacticsInMore
import Derived.LoopNIn
import Derived.LoopIn
import Derived.RangeFuncNested
import Derived.Shelf.RegionOpenPlain
namespace Go.Proofs.Ytaeijlkogenblaa.IxS
open Go.RowKit Go.Shelf Go.Proofs.YtaeijlkogenblaaW.Raw Go.Proofs.YtaeijlkogenblaaW.PrintWords
set_option linter.unusedVariables false
attribute [local go_sem] Oper.semAt_some

set_option maxRecDepth 100000 in
theorem all_calls (xs : List ByteArray) (base g m c : Nat) (A : Option Addr) (w : World) (h : Idx w base g m (.slice A xs.length c) xs) :
    Calls Try.prog 37 #[.pointer (some ⟨g, 0, none⟩)] w fun e w' => e = .returned (.func (.func 42) #[] #[.pointer (some ⟨w.heap.size, 0, none⟩)]) ∧
      w'.heap[w.heap.size]? = some (.cells #[.slice A xs.length xs.length] 22 (0, 0)) ∧ w'.heap.size = w.heap.size + 1 ∧ Below w.heap.size w w' := by
  have hc1 := (cell_of h.blk 1).1
  have hcap : xs.length ≤ c := own_le h.row
  have hmx := row_max h.row
  obtain ⟨n, hn⟩ : ∃ n, n = xs.length := ⟨_, rfl⟩
  rw [← hn] at hc1 hcap hmx ⊢
  have hsl : ∀ W : World, (Instr.slice 22 (.slice A n c) none (some (.int .i64 (n : Int))) (some (.int .i64 (n : Int)))).run Try.prog W = .ok (.slice A n n) W := by
    intro W
    have hel : Try.prog.elem 22 = 9 := by simp [Program.elem, Try.underlying22]
    obtain ⟨i, hi, _, hz, _⟩ := info_parts info9
    rw [run_slice_hm W 22 A n c (by rw [hel]; exact Try.underlying22) .i64 .i64 n n (by omega) (by omega) (by omega), hel]
    have ha : (A.map fun x => x.add 0) = A := by cases A <;> simp [Addr.add]
    simp [sizeOf, typeInfo, hi, hz, sliced, Result.andThen, ha]
  have hc1' : w.drew.cell? ⟨g, 1, none⟩ = some (.slice A n c) := hc1
  have hgl : g < w.heap.size := (Array.getElem?_eq_some_iff.1 h.blk).1
  have hne : g ≠ w.heap.size := Nat.ne_of_lt hgl
  have hc2 : (w.alloc (Obj.cells #[Value.slice none 0 0] 22)).cell? ⟨g, 1, none⟩ = some (.slice A n c) := (World.cell?_of_block (heap_old w _ hgl)).trans hc1
  have hc3 : (w.alloc (Obj.cells #[Value.slice none 0 0] 22)).cell? ⟨w.heap.size, 0, none⟩ = some (.slice none 0 0) := (cell_of (heap_new w _) 0).1
  have hc4 : (w.alloc (Obj.cells #[Value.slice none 0 0] 22)).frozen? ⟨w.heap.size, 0, none⟩ = false := (cell_of (heap_new w _) 0).2
  clear h hn hgl
  have mixed : Try.prog.follows .mixedOrders = true := by kernel_rfl
  go_enter Try.func37, Try.ntmps37
  go_wp2
  go_region_o
  all_goals go_wp2
  go_ret
  exact ⟨rfl, heap_new w _, size_new w _, ((Below.refl _ w).alloc (Nat.le_refl _) _).drew⟩

def keepB (b : Nat) (W W' : World) : Prop := W'.heap[b]? = W.heap[b]?
theorem keepB_t {b : Nat} {A B C : World} (h : keepB b A B) (k : keepB b B C) : keepB b A C := Eq.trans k h
theorem keepB_b {b : Nat} {w : World} (hb : b < w.heap.size) (W : World) (l : Nat) (o o' : Obj) (hl : w.heap.size ≤ l) (_ : W.heap[l]? = some o) (_ : o.isCells = false) (_ : o.isWalk = false) : keepB b W (W.putObj l o') :=
  World.putObj_heap_other (by omega)
def upto (zs : List ByteArray) (k : Nat) : List (Nat × ByteArray) := (List.range k).map fun j => (j, rdOf ByteArray.empty zs j)
theorem upto_succ (zs : List ByteArray) (k : Nat) : upto zs (k + 1) = upto zs k ++ [(k, rdOf ByteArray.empty zs k)] := by simp [upto, List.range_succ]
theorem upto_length (zs : List ByteArray) (k : Nat) : (upto zs k).length = k := by simp [upto]

set_option maxRecDepth 100000 in
set_option maxHeartbeats 2000000 in
theorem all1_in (F : Fence) (n : Nat) (hf : F.fn 42) (hro : F.round = none) (hn : 1 ≤ n) (l Bs b len cap : Nat) (zs : List ByteArray) (hmx : len ≤ 9223372036854775807) (J Jx : List (Nat × ByteArray) → World → Prop)
    (hY : ∀ pre x W, J pre W → pre.length < len → YieldAt F (n - 1) Try.prog l #[.int .i64 ((x.1 : Int) + 1), (Value.string) x.2] W fun e W' =>
      (e = .returned (.bool true) ∧ J (pre ++ [x]) W' ∧ keepB b W W') ∨ (e = .returned (.bool false) ∧ Jx (pre ++ [x]) W'))
    (W : World) (hBs : W.cell? ⟨Bs, 0, none⟩ = some (.slice (some ⟨b, 0, none⟩) len cap)) (hc : ∀ j, j < len → W.cell? ⟨b, j, none⟩ = some ((Value.string) (rdOf ByteArray.empty zs j))) (h0 : J [] W) :
    CallsIn F n Try.prog 42 #[.func (.yield l) #[] #[], .pointer (some ⟨Bs, 0, none⟩)] W fun e W' => (∃ v, e = .returned v) ∧
      ((∃ ys, ys = upto zs len ∧ J ys W') ∨ (∃ pre, (∃ k, k ≤ len ∧ pre = upto zs k) ∧ Jx pre W')) := by
  refine callsIn_of_wp Try.func42 rfl hf ?_ hro
  simp only [Try.ntmps42, List.size_toArray, List.length_cons, List.length_nil, Nat.reduceAdd, Nat.reduceSub, Array.replicate_succ, Array.replicate_zero, List.push_toArray, List.append_toArray, List.nil_append, List.cons_append]
  gi_wp2
  gi_loopw [7] (fun i wr => ∃ k : Nat, k ≤ len ∧ i = .int .i64 k ∧ J (upto zs k) wr ∧ keepB b W wr)
    (fun i _ => len - (intOf i).toNat)
  case atStart => exact ⟨0, Nat.zero_le _, rfl, h0, rfl⟩
  case round =>
    obtain ⟨k, hk, rfl, hJs, hnx⟩ := hrel
    have hcx : k < len → wr.cell? ⟨b, k, none⟩ = some ((Value.string) (rdOf ByteArray.empty zs k)) := fun h => (World.cell?_of_block (a := ⟨b, k, none⟩) (show wr.heap[b]? = W.heap[b]? from hnx)).trans (hc k h)
    by_cases hlt : k < len
    · obtain ⟨x, hx⟩ : ∃ x, x = rdOf ByteArray.empty zs (k : Int) := ⟨_, rfl⟩
      obtain ⟨fn, tmps, assign, body, hy, hR⟩ := hY _ (k, x) wr hJs (by rw [upto_length]; exact hlt)
      dsimp only at hy
      have hcx' := hcx hlt
      rw [← hx] at hcx'
      have HX := Lib.hid hx
      clear hcx hx
      gi_wp2
      refine hR.mono ?_
      rintro e W3 (⟨rfl, hJ3, hk3⟩ | ⟨rfl, hJx3⟩)
      · gi_wp2
        go_roundw
        case rel => exact ⟨k + 1, by omega, by simp, by rw [upto_succ, ← HX.out]; exact hJ3, keepB_t hnx hk3⟩
        case measure => simp [intOf]; omega
      · gi_wp2
        refine bodyPost_ret (results_none rfl _ _ _) rfl ?_
        exact ⟨⟨_, rfl⟩, .inr ⟨_, ⟨k + 1, by omega, by rw [upto_succ, ← HX.out]⟩, hJx3⟩⟩
    · obtain rfl : k = len := by omega
      gi_wp2
      go_end0
      exact ⟨⟨_, rfl⟩, .inl ⟨_, rfl, hJs⟩⟩

set_option maxRecDepth 100000 in
set_option maxHeartbeats 1000000 in
theorem all1_nil_in (F : Fence) (n : Nat) (hf : F.fn 42) (hro : F.round = none) (l Bs : Nat) (J : List (Nat × ByteArray) → World → Prop) (W : World) (hBs : W.cell? ⟨Bs, 0, none⟩ = some (.slice none 0 0)) (h0 : J [] W) :
    CallsIn F n Try.prog 42 #[.func (.yield l) #[] #[], .pointer (some ⟨Bs, 0, none⟩)] W fun e W' => (∃ v, e = .returned v) ∧ J [] W' := by
  refine callsIn_of_wp Try.func42 rfl hf ?_ hro
  simp only [Try.ntmps42, List.size_toArray, List.length_cons, List.length_nil, Nat.reduceAdd, Nat.reduceSub, Array.replicate_succ, Array.replicate_zero, List.push_toArray, List.append_toArray, List.nil_append, List.cons_append]
  gi_wp2
  gi_loopw [7] (fun i wr => i = .int .i64 0 ∧ J [] wr) (fun _ _ => 0)
  case atStart => exact ⟨rfl, h0⟩
  case round =>
    obtain ⟨rfl, hJs⟩ := hrel
    gi_wp2
    go_end0
    exact ⟨⟨_, rfl⟩, hJs⟩
/-- What All hands back gives the things in their order, each with its number. -/
theorem all_stops (F : Fence) (n : Nat) (hf : F.fn 42) (hro : F.round = none) (hn : 1 ≤ n) (Bs base : Nat) (A : Option Addr) (c : Nat) (zs : List ByteArray) (w : World) (hBs : w.heap[Bs]? = some (.cells #[.slice A zs.length zs.length] 22 (0, 0)))
    (hr : w.ownsRow base 9 1 (.slice A zs.length c) zs.length (encs (Value.string) zs)) :
    SeqStopsK F n Try.prog 42 #[.pointer (some ⟨Bs, 0, none⟩)] (fun x : Nat × ByteArray => #[Value.int .i64 ((x.1 : Int) + 1), (Value.string) x.2]) (keepB ((Value.slice A zs.length c).ownBlock.getD 0)) (fun ys => ys = upto zs zs.length)
      (fun pre => ∃ k, k ≤ zs.length ∧ pre = upto zs k) zs.length w := fun l J Jx W hW _ _ hY h0 => by
  have hBs' : W.cell? ⟨Bs, 0, none⟩ = some (.slice A zs.length zs.length) := (World.cell?_of_block (hW.block Bs (Array.getElem?_eq_some_iff.1 hBs).1)).trans (cell_of hBs 0).1
  have hmx := row_max hr
  by_cases hz : zs.length = 0
  · obtain rfl := List.eq_nil_of_length_eq_zero hz
    rcases hr.2 with ⟨he, _⟩ | ⟨b, cap, cur, he, _⟩
    · injection he with e1 _ _
      subst e1
      exact (all1_nil_in F n hf hro l Bs J W hBs' h0).mono fun e W' ⟨he, hj⟩ => ⟨he, .inl ⟨_, rfl, hj⟩⟩
    · injection he with e1 _ _
      subst e1
      exact all1_in F n hf hro hn l Bs b 0 0 [] (by omega) J Jx hY W hBs' (fun j hj => absurd hj (Nat.not_lt_zero _)) h0
  · obtain ⟨b, rfl, _⟩ := row_cell hr 0 (by omega)
    refine all1_in F n hf hro hn l Bs b zs.length _ zs hmx J Jx hY W hBs' (fun j hj => ?_) h0
    obtain ⟨b', e, hcell⟩ := row_cell hr j hj
    cases e
    exact (World.cell?_of_block (hW.block b (own_lt hr b rfl))).trans hcell
end Go.Proofs.Ytaeijlkogenblaa.IxS
