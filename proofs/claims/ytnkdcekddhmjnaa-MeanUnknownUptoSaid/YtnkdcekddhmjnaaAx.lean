/- alive: what the statement's own policy allows. Conditions: none. -/
import Derived.Test.YtnkdcekddhmjnaaSC
import Derived.Test.YtnkdcekddhmjnaaF7
namespace Go.Proofs.Ytnkdcekddhmjnaa.M
open Go.RowKit Go.Proofs.YtnkdcekddhmjnaaW.Raw Go.Proofs.YtnkdcekddhmjnaaW.PrintWords Go.Proofs.Ytnkdcekddhmjnaa.F
set_option linter.unusedVariables false
set_option linter.unusedSimpArgs false
attribute [local go_sem] run_store_float
theorem row_C {α : Type} {d : Kd α} {w : World} {b t : Nat} {cells : Array Value} {xs : List α} (h : w.heap[b]? = some (.cells cells t (0, 0))) (hl : cells.size = xs.length * d.sz) (hm : xs.length ≤ 9223372036854775807)
    (hK : ∀ j p, xs[j]? = some p → d.K w p ((cells.toList.drop (j * d.sz)).take d.sz)) : d.C w (some ⟨b, 0, none⟩) xs.length xs := by
  refine ⟨rfl, hm, fun _ => ⟨_, rfl, fun j p hj => ⟨_, ?_, hK j p hj, fun i u hu => ?_⟩⟩⟩
  · have hjl := (List.getElem?_eq_some_iff.1 hj).1
    rw [List.length_take, List.length_drop, Array.length_toList, hl]
    have : (j + 1) * d.sz ≤ xs.length * d.sz := Nat.mul_le_mul_right _ hjl
    rw [Nat.succ_mul] at this
    omega
  · have h1 := blk_cell h (j * d.sz + i)
    have h2 : cells[j * d.sz + i]? = some u := by
      rw [List.getElem?_take] at hu
      split at hu
      · rw [List.getElem?_drop, Array.getElem?_toList] at hu
        exact hu
      · cases hu
    rw [h2] at h1
    have ha : (⟨b, 0, none⟩ : Addr).add (j * d.sz + i) = ⟨b, j * d.sz + i, none⟩ := by
      generalize j * d.sz + i = q
      unfold Addr.add
      by_cases hq : q = 0
      · subst hq; rfl
      · simp [hq]
    rw [ha]
    exact h1
theorem str_C {w : World} {b t : Nat} {xs : List ByteArray} (h : w.heap[b]? = some (.cells (xs.map Value.string).toArray t (0, 0))) (hm : xs.length ≤ 9223372036854775807) : Kd.C Kd.string w (some ⟨b, 0, none⟩) xs.length xs := by
  refine row_C (d := Kd.string) h (by simp [Kd.string, Kd.scalar]) hm (fun j p hj => ?_)
  show _ = [Value.string p]
  have hjl := (List.getElem?_eq_some_iff.1 hj).1
  have hp := (List.getElem?_eq_some_iff.1 hj).2
  simp only [Kd.string, Kd.scalar, Nat.mul_one]
  rw [List.take_one, List.head?_drop, List.getElem?_map, hj]
  rfl
def bs (l : List UInt8) : ByteArray := ⟨l.toArray⟩
def open_ : ByteArray := ⟨#[111, 112, 101, 110]⟩
def read_ : ByteArray := ⟨#[114, 101, 97, 100]⟩
def ann_ : ByteArray := ⟨#[97, 110, 110]⟩
def bob_ : ByteArray := ⟨#[98, 111, 98]⟩
def clerk_ : ByteArray := ⟨#[99, 108, 101, 114, 107]⟩
def door_ : ByteArray := ⟨#[100, 111, 111, 114]⟩
def doors_ : ByteArray := ⟨#[100, 111, 111, 114, 115]⟩
def alP : Pol := { f0 := [open_, read_], f1 := [⟨ann_, 4607182418800017408⟩, ⟨bob_, 4602678819172646912⟩], f2 := [clerk_], f3 := [door_], f4 := [doors_], f5 := [⟨ann_, clerk_⟩, ⟨bob_, clerk_⟩], f6 := [], f7 := [⟨door_, doors_⟩], f8 := [], f9 := [⟨false, clerk_, doors_, [], 0, 0⟩, ⟨true, bob_, door_, [read_], 0, 0⟩], f10 := [] }
theorem alP_rel : relL alP = [⟨ann_, door_, open_⟩, ⟨ann_, door_, read_⟩, ⟨bob_, door_, open_⟩] := by kernel_rfl
theorem tri_cells {w : World} {g : Nat} {t0 t1 t2 : Tri} (h : Kd.C k36 w (some ⟨g, 0, none⟩) 3 [t0, t1, t2]) :
    w.cell? ⟨g, 0, none⟩ = some (.string t0.f0) ∧ w.cell? ⟨g, 1, none⟩ = some (.string t0.f1) ∧ w.cell? ⟨g, 2, none⟩ = some (.string t0.f2) ∧ w.cell? ⟨g, 3, none⟩ = some (.string t1.f0) ∧ w.cell? ⟨g, 4, none⟩ = some (.string t1.f1) ∧ w.cell? ⟨g, 5, none⟩ = some (.string t1.f2) ∧ w.cell? ⟨g, 6, none⟩ = some (.string t2.f0) ∧ w.cell? ⟨g, 7, none⟩ = some (.string t2.f1) ∧ w.cell? ⟨g, 8, none⟩ = some (.string t2.f2) := by
  obtain ⟨ad, e, a0, a1, a2⟩ := at_T36 h 0 (by decide) (by decide)
  cases e
  obtain ⟨ad, e, b0, b1, b2⟩ := at_T36 h 1 (by decide) (by decide)
  cases e
  obtain ⟨ad, e, c0, c1, c2⟩ := at_T36 h 2 (by decide) (by decide)
  cases e
  exact ⟨a0, a1, a2, b0, b1, b2, c0, c1, c2⟩
theorem tri_calls (a b c : ByteArray) (w : World) : Calls Try.prog 40 #[.string a, .string b, .string c] w fun e w' => e = .returned (.agg #[.string a, .string b, .string c]) ∧ Below w.heap.size w w' := gatehouselaw08_tri.calls a b c a b c w rfl
theorem heap_at (w : World) (o : Obj) {i : Nat} (h : i = w.heap.size) : (w.alloc o).heap[i]? = some o := by subst h; exact heap_new w o
theorem C_nil {α : Type} (d : Kd α) (w : World) (A : Option Addr) : d.C w A 0 [] := ⟨rfl, by decide, fun h => absurd h (by decide)⟩
set_option maxRecDepth 100000 in
set_option maxHeartbeats 2000000 in
theorem alive_calls (w : World) : Calls Try.prog 30 #[] w fun e w' => e = .returned (.bool true) ∧ Below w.heap.size w w' := by
  obtain ⟨W, hW⟩ : ∃ W, W = (((((((((w.alloc (Obj.cells #[Value.string open_, Value.string read_] 9)).alloc (Obj.cells #[Value.string ann_, Value.float .f64 4607182418800017408, Value.string bob_, Value.float .f64 4602678819172646912] 57)).alloc (Obj.cells #[Value.string clerk_] 9)).alloc (Obj.cells #[Value.string door_] 9)).alloc (Obj.cells #[Value.string doors_] 9)).alloc (Obj.cells #[Value.string ann_, Value.string clerk_, Value.string bob_, Value.string clerk_] 86)).alloc (Obj.cells #[Value.string door_, Value.string doors_] 86)).alloc (Obj.cells #[Value.string read_] 9)).alloc (Obj.cells #[Value.bool false, Value.string clerk_, Value.string doors_, Value.slice none 0 0, Value.int .i8 0, Value.float .f64 0, Value.bool true, Value.string bob_, Value.string door_, Value.slice (some ⟨w.heap.size + 1 + 1 + 1 + 1 + 1 + 1 + 1, 0, none⟩) 1 1, Value.int .i8 0, Value.float .f64 0] 27)).alloc (Obj.cells #[Value.slice (some ⟨w.heap.size, 0, none⟩) 2 2, Value.slice (some ⟨w.heap.size + 1, 0, none⟩) 2 2, Value.slice (some ⟨w.heap.size + 1 + 1, 0, none⟩) 1 1, Value.slice (some ⟨w.heap.size + 1 + 1 + 1, 0, none⟩) 1 1, Value.slice (some ⟨w.heap.size + 1 + 1 + 1 + 1, 0, none⟩) 1 1, Value.slice (some ⟨w.heap.size + 1 + 1 + 1 + 1 + 1, 0, none⟩) 2 2, Value.slice none 0 0, Value.slice (some ⟨w.heap.size + 1 + 1 + 1 + 1 + 1 + 1, 0, none⟩) 1 1, Value.slice none 0 0, Value.slice (some ⟨w.heap.size + 1 + 1 + 1 + 1 + 1 + 1 + 1 + 1, 0, none⟩) 2 2, Value.slice none 0 0] 34) := ⟨_, rfl⟩
  have r0 : W.heap[w.heap.size]? = some (.cells #[Value.string open_, Value.string read_] 9 (0, 0)) := by
    rw [hW]
    repeat (first | exact heap_at _ _ (by first | rfl | simp only [size_new]) | refine (heap_old _ _ (by simp only [size_new]; omega)).trans ?_)
  have r1 : W.heap[w.heap.size + 1]? = some (.cells #[Value.string ann_, Value.float .f64 4607182418800017408, Value.string bob_, Value.float .f64 4602678819172646912] 57 (0, 0)) := by
    rw [hW]
    repeat (first | exact heap_at _ _ (by first | rfl | simp only [size_new]) | refine (heap_old _ _ (by simp only [size_new]; omega)).trans ?_)
  have r2 : W.heap[w.heap.size + 1 + 1]? = some (.cells #[Value.string clerk_] 9 (0, 0)) := by
    rw [hW]
    repeat (first | exact heap_at _ _ (by first | rfl | simp only [size_new]) | refine (heap_old _ _ (by simp only [size_new]; omega)).trans ?_)
  have r3 : W.heap[w.heap.size + 1 + 1 + 1]? = some (.cells #[Value.string door_] 9 (0, 0)) := by
    rw [hW]
    repeat (first | exact heap_at _ _ (by first | rfl | simp only [size_new]) | refine (heap_old _ _ (by simp only [size_new]; omega)).trans ?_)
  have r4 : W.heap[w.heap.size + 1 + 1 + 1 + 1]? = some (.cells #[Value.string doors_] 9 (0, 0)) := by
    rw [hW]
    repeat (first | exact heap_at _ _ (by first | rfl | simp only [size_new]) | refine (heap_old _ _ (by simp only [size_new]; omega)).trans ?_)
  have r5 : W.heap[w.heap.size + 1 + 1 + 1 + 1 + 1]? = some (.cells #[Value.string ann_, Value.string clerk_, Value.string bob_, Value.string clerk_] 86 (0, 0)) := by
    rw [hW]
    repeat (first | exact heap_at _ _ (by first | rfl | simp only [size_new]) | refine (heap_old _ _ (by simp only [size_new]; omega)).trans ?_)
  have r6 : W.heap[w.heap.size + 1 + 1 + 1 + 1 + 1 + 1]? = some (.cells #[Value.string door_, Value.string doors_] 86 (0, 0)) := by
    rw [hW]
    repeat (first | exact heap_at _ _ (by first | rfl | simp only [size_new]) | refine (heap_old _ _ (by simp only [size_new]; omega)).trans ?_)
  have r7 : W.heap[w.heap.size + 1 + 1 + 1 + 1 + 1 + 1 + 1]? = some (.cells #[Value.string read_] 9 (0, 0)) := by
    rw [hW]
    repeat (first | exact heap_at _ _ (by first | rfl | simp only [size_new]) | refine (heap_old _ _ (by simp only [size_new]; omega)).trans ?_)
  have r8 : W.heap[w.heap.size + 1 + 1 + 1 + 1 + 1 + 1 + 1 + 1]? = some (.cells #[Value.bool false, Value.string clerk_, Value.string doors_, Value.slice none 0 0, Value.int .i8 0, Value.float .f64 0, Value.bool true, Value.string bob_, Value.string door_, Value.slice (some ⟨w.heap.size + 1 + 1 + 1 + 1 + 1 + 1 + 1, 0, none⟩) 1 1, Value.int .i8 0, Value.float .f64 0] 27 (0, 0)) := by
    rw [hW]
    repeat (first | exact heap_at _ _ (by first | rfl | simp only [size_new]) | refine (heap_old _ _ (by simp only [size_new]; omega)).trans ?_)
  have hb : Below w.heap.size w W := by
    rw [hW]
    repeat (first | exact Below.refl _ _ | refine Below.alloc ?_ (by first | exact Nat.le_refl _ | (simp only [size_new]; omega)) _)
  have hK : k34.K W alP (#[Value.slice (some ⟨w.heap.size, 0, none⟩) 2 2, Value.slice (some ⟨w.heap.size + 1, 0, none⟩) 2 2, Value.slice (some ⟨w.heap.size + 1 + 1, 0, none⟩) 1 1, Value.slice (some ⟨w.heap.size + 1 + 1 + 1, 0, none⟩) 1 1, Value.slice (some ⟨w.heap.size + 1 + 1 + 1 + 1, 0, none⟩) 1 1, Value.slice (some ⟨w.heap.size + 1 + 1 + 1 + 1 + 1, 0, none⟩) 2 2, Value.slice none 0 0, Value.slice (some ⟨w.heap.size + 1 + 1 + 1 + 1 + 1 + 1, 0, none⟩) 1 1, Value.slice none 0 0, Value.slice (some ⟨w.heap.size + 1 + 1 + 1 + 1 + 1 + 1 + 1 + 1, 0, none⟩) 2 2, Value.slice none 0 0] : Array Value).toList := by
    refine k34_mk W alP (by decide) (str_C (xs := [open_, read_]) r0 (by decide)) (by decide) (row_C (d := k57) r1 rfl (by decide) ?_) (by decide) (str_C (xs := [clerk_]) r2 (by decide)) (by decide) (str_C (xs := [door_]) r3 (by decide)) (by decide) (str_C (xs := [doors_]) r4 (by decide)) (by decide) (row_C (d := k86) r5 rfl (by decide) ?_) (by decide) (C_nil _ _ _) (by decide) (row_C (d := k86) r6 rfl (by decide) ?_) (by decide) (C_nil _ _ _) (by decide) (row_C (d := k27) r8 rfl (by decide) ?_) (by decide) (C_nil _ _ _)
    · intro j p hj
      match j, hj with
      | 0, hj => cases hj; exact ⟨_, _, rfl, rfl, rfl⟩
      | 1, hj => cases hj; exact ⟨_, _, rfl, rfl, rfl⟩
    · intro j p hj
      match j, hj with
      | 0, hj => cases hj; exact ⟨_, _, rfl, rfl, rfl⟩
      | 1, hj => cases hj; exact ⟨_, _, rfl, rfl, rfl⟩
    · intro j p hj
      match j, hj with
      | 0, hj => cases hj; exact ⟨_, _, rfl, rfl, rfl⟩
    · intro j p hj
      match j, hj with
      | 0, hj => cases hj; exact k27_mk W ⟨false, clerk_, doors_, [], 0, 0⟩ (by decide) (C_nil _ _ _)
      | 1, hj => cases hj; exact k27_mk W ⟨true, bob_, door_, [read_], 0, 0⟩ (by decide) (str_C (xs := [read_]) r7 (by decide))
  have HB := Lib.hid hb
  have HK := Lib.hid hK
  clear hb hK r0 r1 r2 r3 r4 r5 r6 r7 r8
  go_enter Try.func30, Try.ntmps30
  go_wp2_with fail
  refine Calls.mono (hW ▸ relation_calls alP _ W HK.out ⟨by decide, by decide, by decide, by decide, by decide, by decide⟩ (by decide)) ?_
  rintro e W2 ⟨v, rfl, hN, hb2⟩
  rw [← hW] at hb2
  rw [alP_rel] at hN
  obtain ⟨g, c, rfl, -, -, -⟩ := Kd.N_form hN (by decide)
  obtain ⟨-, hc, hC⟩ := Kd.N_reads' hN
  have HC := Lib.hid hC
  have HB2 := Lib.hid (HB.out.trans (hb2.mono HB.out.size))
  have HBT := Lib.hid (Below.refl W2.heap.size W2)
  clear hN hC hb2 HK HB
  go_wp2_with fail
  go_region_held3 (fun w' => w'.cell? ⟨g, 0, none⟩ = some (.string ⟨#[97, 110, 110]⟩) ∧ w'.cell? ⟨g, 1, none⟩ = some (.string ⟨#[100, 111, 111, 114]⟩) ∧ w'.cell? ⟨g, 2, none⟩ = some (.string ⟨#[111, 112, 101, 110]⟩) ∧ w'.cell? ⟨g, 3, none⟩ = some (.string ⟨#[97, 110, 110]⟩) ∧ w'.cell? ⟨g, 4, none⟩ = some (.string ⟨#[100, 111, 111, 114]⟩) ∧ w'.cell? ⟨g, 5, none⟩ = some (.string ⟨#[114, 101, 97, 100]⟩) ∧ w'.cell? ⟨g, 6, none⟩ = some (.string ⟨#[98, 111, 98]⟩) ∧ w'.cell? ⟨g, 7, none⟩ = some (.string ⟨#[100, 111, 111, 114]⟩) ∧ w'.cell? ⟨g, 8, none⟩ = some (.string ⟨#[111, 112, 101, 110]⟩))
    (exact tri_cells (Kd.C_below HC.out HBT.out))
    (first | (go_at_call 40; refine (tri_calls _ _ _ _).mono ?_; rintro e w6 ⟨rfl, hb6⟩; go_must (have HBT := Lib.hid (below_on HBT.out hb6 rfl rfl rfl rfl); clear hb6)))
  all_goals
    go_wp2_with fail
    go_ret
    exact ⟨rfl, HB2.out.trans (HBT.out.mono HB2.out.size)⟩
end Go.Proofs.Ytnkdcekddhmjnaa.M
namespace Go.Proofs.Ytnkdcekddhmjnaa.F
open Go.RowKit
end Go.Proofs.Ytnkdcekddhmjnaa.F
