import Derived.Test.YtnkdcekddhmjnaaRoB
import Derived.Test.YtnkdcekddhmjnaaWAlo
import Derived.Test.YtnkdcekddhmjnaaPT
import Derived.StillTailTactics
import Derived.Laws.Rows
/- The document's Relation: what it calls, and its regions that draw their order. Conditions: the policy reads as it must; no list, and no rule's list of actions, is longer than 1048576; the product of the three is at most 65536. -/
namespace Go.Proofs.Ytnkdcekddhmjnaa.M
open Go.RowKit Go.Proofs.YtnkdcekddhmjnaaW.Raw Go.Proofs.YtnkdcekddhmjnaaW.PrintWords Go.Proofs.YtnkdcekddhmjnaaW.PrintLast Go.Proofs.YtnkdcekddhmjnaaW.PrintAll Go.Proofs.Ytnkdcekddhmjnaa.F
set_option linter.unusedVariables false
set_option linter.unusedSimpArgs false
theorem rsubj_k (p : Pol) (C0 : Array Value) (w : World) (hk : k34.K w p C0.toList) (hs : Sz p) :
    Calls Try.prog 61 #[.agg C0] w fun e w' => ∃ v, e = .returned v ∧ Kd.R Kd.string 9 w' w.heap.size (fun _ => True) v (p.f1.map (·.f0)) ∧ Below w.heap.size w w' := by
  obtain ⟨k, hk2⟩ := rsubj_f p hs
  obtain ⟨A0, c0, A1, c1, A2, c2, A3, c3, A4, c4, A5, c5, A6, c6, A7, c7, A8, c8, A9, c9, A10, c10, e_, l0, g0, l1, g1, l2, g2, l3, g3, l4, g4, l5, g5, l6, g6, l7, g7, l8, g8, l9, g9, l10, g10⟩ := k34_open hk
  obtain rfl : C0 = #[.slice A0 p.f0.length c0, .slice A1 p.f1.length c1, .slice A2 p.f2.length c2, .slice A3 p.f3.length c3, .slice A4 p.f4.length c4, .slice A5 p.f5.length c5, .slice A6 p.f6.length c6, .slice A7 p.f7.length c7, .slice A8 p.f8.length c8, .slice A9 p.f9.length c9, .slice A10 p.f10.length c10] := by cases C0; simpa using e_
  clear e_
  exact gatehouseref08_Subjects.calls k A0 c0 p.f0 A1 c1 p.f1 A2 c2 p.f2 A3 c3 p.f3 A4 c4 p.f4 A5 c5 p.f5 A6 c6 p.f6 A7 c7 p.f7 A8 c8 p.f8 A9 c9 p.f9 A10 c10 p.f10 _ w g0 l0 g1 l1 g2 l2 g3 l3 g4 l4 g5 l5 g6 l6 g7 l7 g8 l8 g9 l9 g10 l10 (hk2 k (Nat.le_refl _))
theorem rfirst_k (l : List ByteArray) (A : Option Addr) (c : Nat) (w : World) (h : Kd.C Kd.string w A l.length l) (hc : l.length ≤ c) (hl : l.length ≤ 1048576) :
    Calls Try.prog 60 #[.slice A l.length c] w fun e w' => ∃ v, e = .returned v ∧ Kd.R Kd.string 9 w' w.heap.size (fun _ => True) v (addAll [] l) ∧ Below w.heap.size w w' := by
  obtain ⟨k, hk⟩ := rfirst_f l hl
  exact gatehouseref08_first.calls k A c l _ w h hc (hk k (Nat.le_refl _))
theorem rups_k (l m : List Pair) (A B : Option Addr) (c d : Nat) (n : ByteArray) (w : World) (h : Kd.C k86 w A l.length l) (hc : l.length ≤ c) (h2 : Kd.C k86 w B m.length m) (hd : m.length ≤ d) (hl : l.length ≤ 1048576) (hm : m.length ≤ 1048576) :
    Calls Try.prog 53 #[.slice A l.length c, .slice B m.length d, .string n] w fun e w' => ∃ v L, e = .returned v ∧ (L.length ≤ 4194304 ∧ ∀ x, x ∈ L ↔ x ∈ upL (l ++ m) n) ∧ Kd.R Kd.string 9 w' w.heap.size (fun _ => True) v L ∧ Below w.heap.size w w' := by
  obtain ⟨L, ⟨k, hk⟩, hL, hmem⟩ := rups_f l m n hl hm
  exact (gatehouseref08_Ups.calls k A c l B d m n L w h hc h2 hd (hk k (Nat.le_refl _))).mono fun e w' ⟨v, h1, h2, h3⟩ => ⟨v, L, h1, ⟨hL, hmem⟩, h2, h3⟩
theorem rtrust_k (p : Pol) (C0 : Array Value) (n : ByteArray) (w : World) (hk : k34.K w p C0.toList) (hs : Sz p) :
    Calls Try.prog 50 #[.agg C0, .string n] w fun e w' => e = .returned (.tuple #[.float .f64 ((trustOf p.f1 n).getD 0), .bool (trustOf p.f1 n).isSome]) ∧ Below w.heap.size w w' := by
  obtain ⟨k, hk2⟩ := rtrust_f p n hs
  have hk2 := hk2 k (Nat.le_refl _)
  obtain ⟨A0, c0, A1, c1, A2, c2, A3, c3, A4, c4, A5, c5, A6, c6, A7, c7, A8, c8, A9, c9, A10, c10, e_, l0, g0, l1, g1, l2, g2, l3, g3, l4, g4, l5, g5, l6, g6, l7, g7, l8, g8, l9, g9, l10, g10⟩ := k34_open hk
  obtain rfl : C0 = #[.slice A0 p.f0.length c0, .slice A1 p.f1.length c1, .slice A2 p.f2.length c2, .slice A3 p.f3.length c3, .slice A4 p.f4.length c4, .slice A5 p.f5.length c5, .slice A6 p.f6.length c6, .slice A7 p.f7.length c7, .slice A8 p.f8.length c8, .slice A9 p.f9.length c9, .slice A10 p.f10.length c10] := by cases C0; simpa using e_
  clear e_
  cases ht : trustOf p.f1 n with
  | none =>
    rw [ht] at hk2
    exact gatehouseref08_Trust.calls k A0 c0 p.f0 A1 c1 p.f1 A2 c2 p.f2 A3 c3 p.f3 A4 c4 p.f4 A5 c5 p.f5 A6 c6 p.f6 A7 c7 p.f7 A8 c8 p.f8 A9 c9 p.f9 A10 c10 p.f10 n 0 false w g0 l0 g1 l1 g2 l2 g3 l3 g4 l4 g5 l5 g6 l6 g7 l7 g8 l8 g9 l9 g10 l10 hk2
  | some tr =>
    rw [ht] at hk2
    exact gatehouseref08_Trust.calls k A0 c0 p.f0 A1 c1 p.f1 A2 c2 p.f2 A3 c3 p.f3 A4 c4 p.f4 A5 c5 p.f5 A6 c6 p.f6 A7 c7 p.f7 A8 c8 p.f8 A9 c9 p.f9 A10 c10 p.f10 n tr true w g0 l0 g1 l1 g2 l2 g3 l3 g4 l4 g5 l5 g6 l6 g7 l7 g8 l8 g9 l9 g10 l10 hk2
/-- The rules that came in, as what lies below the first world's size. -/
theorem V_below {w0 w : World} {base : Nat} {A : Option Addr} {c : Nat} {xs : List Rule} (h : Kd.C k27 w0 A xs.length xs) (hc : xs.length ≤ c) (hb : Below w0.heap.size w0 w) : Kd.V k27 27 w base (fun k => k < w0.heap.size) (.slice A xs.length c) xs :=
  ⟨A, c, rfl, hc, fun W' hW => Kd.Heap.C k27_heap (fun k hk => (hW k hk (Nat.lt_of_lt_of_le hk hb.size)).trans (hb.block k hk)) h⟩
theorem rone_k (p : Pol) (C0 : Array Value) (w0 w : World) (hk : k34.K w0 p C0.toList) (hs : Sz p) (hb : Below w0.heap.size w0 w) (L1 L2 : List ByteArray) (B1 B2 : Option Addr) (d1 d2 tr : Nat) (h1 : Kd.C Kd.string w B1 L1.length L1) (k1 : L1.length ≤ d1) (h2 : Kd.C Kd.string w B2 L2.length L2) (k2 : L2.length ≤ d2) (b1 : L1.length ≤ 4194304) (b2 : L2.length ≤ 4194304) :
    Calls Try.prog 62 #[.agg C0, .slice B1 L1.length d1, .float .f64 tr, .slice B2 L2.length d2] w fun e w' => ∃ v, e = .returned v ∧ Kd.N k27 27 w' w.heap.size (fun k => k < w0.heap.size ∨ w.heap.size ≤ k) v (p.f9.filter fun r => speakB r tr L1 L2) ∧ Below w.heap.size w w' := by
  obtain ⟨k, hk2⟩ := rone_f p L1 tr L2 b1 b2 hs
  obtain ⟨A0, c0, A1, c1, A2, c2, A3, c3, A4, c4, A5, c5, A6, c6, A7, c7, A8, c8, A9, c9, A10, c10, e_, l0, g0, l1, g1, l2, g2, l3, g3, l4, g4, l5, g5, l6, g6, l7, g7, l8, g8, l9, g9, l10, g10⟩ := k34_open hk
  obtain rfl : C0 = #[.slice A0 p.f0.length c0, .slice A1 p.f1.length c1, .slice A2 p.f2.length c2, .slice A3 p.f3.length c3, .slice A4 p.f4.length c4, .slice A5 p.f5.length c5, .slice A6 p.f6.length c6, .slice A7 p.f7.length c7, .slice A8 p.f8.length c8, .slice A9 p.f9.length c9, .slice A10 p.f10.length c10] := by cases C0; simpa using e_
  clear e_
  exact gatehouseref08_one.calls k A0 c0 p.f0 A1 c1 p.f1 A2 c2 p.f2 A3 c3 p.f3 A4 c4 p.f4 A5 c5 p.f5 A6 c6 p.f6 A7 c7 p.f7 A8 c8 p.f8 (fun k => k < w0.heap.size) A9 c9 p.f9 A10 c10 p.f10 B1 d1 L1 tr B2 d2 L2 _ w (Kd.C_below g0 hb) l0 (Kd.C_below g1 hb) l1 (Kd.C_below g2 hb) l2 (Kd.C_below g3 hb) l3 (Kd.C_below g4 hb) l4 (Kd.C_below g5 hb) l5 (Kd.C_below g6 hb) l6 (Kd.C_below g7 hb) l7 (Kd.C_below g8 hb) l8 (V_below g9 l9 hb) (Kd.C_below g10 hb) l10 h1 k1 h2 k2 (hk2 k (Nat.le_refl _))
theorem rmay_k (p : Pol) (C0 : Array Value) (w0 w : World) (hk : k34.K w0 p C0.toList) (hs : Sz p) (hb : Below w0.heap.size w0 w) (R : List Rule) (B1 : Option Addr) (d1 : Nat) (t : Tri) (h1 : Kd.C k27 w B1 R.length R) (k1 : R.length ≤ d1) (hR : R.length ≤ 1048576) (hA : ∀ r ∈ R, r.f3.length ≤ 1048576) :
    Calls Try.prog 63 #[.agg C0, .slice B1 R.length d1, .agg #[.string t.f0, .string t.f1, .string t.f2]] w fun e w' => e = .returned (.bool (allowB R p.f10 t)) ∧ Below w.heap.size w w' := by
  obtain ⟨k, hk2⟩ := rmay_f p R t hs hR hA
  obtain ⟨A0, c0, A1, c1, A2, c2, A3, c3, A4, c4, A5, c5, A6, c6, A7, c7, A8, c8, A9, c9, A10, c10, e_, l0, g0, l1, g1, l2, g2, l3, g3, l4, g4, l5, g5, l6, g6, l7, g7, l8, g8, l9, g9, l10, g10⟩ := k34_open hk
  obtain rfl : C0 = #[.slice A0 p.f0.length c0, .slice A1 p.f1.length c1, .slice A2 p.f2.length c2, .slice A3 p.f3.length c3, .slice A4 p.f4.length c4, .slice A5 p.f5.length c5, .slice A6 p.f6.length c6, .slice A7 p.f7.length c7, .slice A8 p.f8.length c8, .slice A9 p.f9.length c9, .slice A10 p.f10.length c10] := by cases C0; simpa using e_
  clear e_
  exact gatehouseref08_may.calls k A0 c0 p.f0 A1 c1 p.f1 A2 c2 p.f2 A3 c3 p.f3 A4 c4 p.f4 A5 c5 p.f5 A6 c6 p.f6 A7 c7 p.f7 A8 c8 p.f8 A9 c9 p.f9 A10 c10 p.f10 B1 d1 R t.f0 t.f1 t.f2 _ w (Kd.C_below g0 hb) l0 (Kd.C_below g1 hb) l1 (Kd.C_below g2 hb) l2 (Kd.C_below g3 hb) l3 (Kd.C_below g4 hb) l4 (Kd.C_below g5 hb) l5 (Kd.C_below g6 hb) l6 (Kd.C_below g7 hb) l7 (Kd.C_below g8 hb) l8 (Kd.C_below g9 hb) l9 (Kd.C_below g10 hb) l10 h1 k1 (hk2 k (Nat.le_refl _))
/-- What stays: the box, and the rows of names. -/
structure RrS (w0 : World) (b1 : Nat) (cb : Array Value) (v3 v4 v5 : Value) (wl ol al : List ByteArray) (W : World) : Prop where
  h1 : W.heap[b1]? = some (Obj.cells cb 34 (0, 0))
  bel : Below w0.heap.size w0 W
  r3 : Kd.R Kd.string 9 W w0.heap.size (fun _ => True) v3 wl
  r4 : Kd.R Kd.string 9 W w0.heap.size (fun _ => True) v4 ol
  r5 : Kd.R Kd.string 9 W w0.heap.size (fun _ => True) v5 al
theorem RrS.below {w0 W W' : World} {b1 : Nat} {cb : Array Value} {v3 v4 v5 : Value} {wl ol al : List ByteArray} (h : RrS w0 b1 cb v3 v4 v5 wl ol al W) (hb : Below W.heap.size W W') : RrS w0 b1 cb v3 v4 v5 wl ol al W' :=
  ⟨blk_below h.h1 hb, h.bel.trans (hb.mono h.bel.size), Kd.R_below h.r3 hb, Kd.R_below h.r4 hb, Kd.R_below h.r5 hb⟩
theorem RrS.grown {w0 W W' : World} {b1 : Nat} {cb : Array Value} {v3 v4 v5 : Value} {wl ol al : List ByteArray} (h : RrS w0 b1 cb v3 v4 v5 wl ol al W) {row : Option Nat} (e : Nat) (hg : W.grownBy W' row) (hr : ∀ k, row = some k → ∃ cs, W.heap[k]? = some (Obj.cells cs e (0, 0))) (hb : Below w0.heap.size w0 W') (he : 34 ≠ e ∧ 9 ≠ e) : RrS w0 b1 cb v3 v4 v5 wl ol al W' :=
  have ts : TS [9] W W' := TS.grown hg hr (by
    intro q hq
    rw [List.mem_singleton.1 hq]
    exact he.2)
  ⟨blk_gts h.h1 hg hr he.1, hb, R_ts h.r3 ts (by decide), R_ts h.r4 ts (by decide), R_ts h.r5 ts (by decide)⟩
theorem lst_at {w : World} {A : Option Addr} {n : Nat} {ts : List (List ByteArray)} (h : Kd.C (Kd.slice 9 Kd.string) w A n ts) (k : Nat) (hk : k < n) : ∃ ad B d, A = some ad ∧ w.cell? (ad.add k) = some (.slice B (ts.getD k []).length d) ∧ (ts.getD k []).length ≤ d ∧ Kd.C Kd.string w B (ts.getD k []).length (ts.getD k []) := by
  obtain ⟨ad, c, e, _, hK, hc0⟩ := Kd.C_get h [] (k : Int) (by omega) (by omega)
  obtain ⟨B, d, rfl, h1, h2⟩ := hK
  refine ⟨ad, B, d, e, ?_, h1, h2⟩
  have : w.cell? (ad.add ((k : Int).toNat * 1 + 0)) = some (.slice B (ts.getD ((k : Int).toNat) []).length d) := hc0 0 _ rfl
  simpa using this
theorem nm_at {w0 W : World} {b1 : Nat} {cb : Array Value} {v3 v5 : Value} {wl ol al : List ByteArray} {ad : Addr} {n y : Nat} (h : RrS w0 b1 cb v3 (.slice (some ad) n y) v5 wl ol al W) {k : Nat} (hk : k < n) : W.cell? (ad.add k) = some (.string (ol.getD k ByteArray.empty)) := by
  have hr := Kd.R_reads' h.r4
  obtain ⟨ad2, e2, h2⟩ := str_at hr.2.2 k (by rw [← hr.1]; exact hk)
  injection e2 with e2
  subst e2
  exact h2
theorem nm3_at {w0 W : World} {b1 : Nat} {cb : Array Value} {v4 v5 : Value} {wl ol al : List ByteArray} {ad : Addr} {n y : Nat} (h : RrS w0 b1 cb (.slice (some ad) n y) v4 v5 wl ol al W) {k : Nat} (hk : k < n) : W.cell? (ad.add k) = some (.string (wl.getD k ByteArray.empty)) := by
  have hr := Kd.R_reads' h.r3
  obtain ⟨ad2, e2, h2⟩ := str_at hr.2.2 k (by rw [← hr.1]; exact hk)
  injection e2 with e2
  subst e2
  exact h2
theorem nm5_at {w0 W : World} {b1 : Nat} {cb : Array Value} {v3 v4 : Value} {wl ol al : List ByteArray} {ad : Addr} {n y : Nat} (h : RrS w0 b1 cb v3 v4 (.slice (some ad) n y) wl ol al W) {k : Nat} (hk : k < n) : W.cell? (ad.add k) = some (.string (al.getD k ByteArray.empty)) := by
  have hr := Kd.R_reads' h.r5
  obtain ⟨ad2, e2, h2⟩ := str_at hr.2.2 k (by rw [← hr.1]; exact hk)
  injection e2 with e2
  subst e2
  exact h2
/-- The same, and the row of what each object is. -/
structure RtS (w0 : World) (b1 : Nat) (cb : Array Value) (v3 v4 v5 : Value) (wl ol al : List ByteArray) (vL : Value) (Ls : List (List ByteArray)) (W : World) : Prop where
  s : RrS w0 b1 cb v3 v4 v5 wl ol al W
  hL : Kd.R (Kd.slice 9 Kd.string) 25 W w0.heap.size (fun _ => True) vL Ls
theorem RtS.below {w0 W W' : World} {b1 : Nat} {cb : Array Value} {v3 v4 v5 vL : Value} {wl ol al : List ByteArray} {Ls : List (List ByteArray)} (h : RtS w0 b1 cb v3 v4 v5 wl ol al vL Ls W) (hb : Below W.heap.size W W') : RtS w0 b1 cb v3 v4 v5 wl ol al vL Ls W' := ⟨h.s.below hb, Kd.R_below h.hL hb⟩
theorem RtS.grown {w0 W W' : World} {b1 : Nat} {cb : Array Value} {v3 v4 v5 vL : Value} {wl ol al : List ByteArray} {Ls : List (List ByteArray)} (h : RtS w0 b1 cb v3 v4 v5 wl ol al vL Ls W) {row : Option Nat} (e : Nat) (hg : W.grownBy W' row) (hr : ∀ k, row = some k → ∃ cs, W.heap[k]? = some (Obj.cells cs e (0, 0))) (hb : Below w0.heap.size w0 W') (he : 34 ≠ e ∧ 9 ≠ e ∧ 25 ≠ e) : RtS w0 b1 cb v3 v4 v5 wl ol al vL Ls W' :=
  ⟨h.s.grown e hg hr hb ⟨he.1, he.2.1⟩, R_ts h.hL (TS.grown (T := [9, 25]) hg hr (by
    intro q hq
    simp only [List.mem_cons, List.not_mem_nil, or_false] at hq
    rcases hq with rfl | rfl
    · exact he.2.1
    · exact he.2.2)) (by decide)⟩
theorem whos_grown {w0 W W' : World} {v : Value} {L : List ByteArray} (h : Kd.R Kd.string 9 W w0.heap.size (fun _ => True) v L) {row : Option Nat} (e : Nat) (hg : W.grownBy W' row) (hr : ∀ k, row = some k → ∃ cs, W.heap[k]? = some (Obj.cells cs e (0, 0))) (he : 9 ≠ e) : Kd.R Kd.string 9 W' w0.heap.size (fun _ => True) v L :=
  R_ts h (TS.grown (T := [9]) hg hr (by
    intro q hq
    rw [List.mem_singleton.1 hq]
    exact he)) (by decide)
theorem about_same (p : Pol) (x y : ByteArray) (tr : Nat) {L1 L2 : List ByteArray} (h1 : ∀ z, z ∈ L1 ↔ z ∈ upL (p.f5 ++ p.f6) x) (h2 : ∀ z, z ∈ L2 ↔ z ∈ upO p y) : (p.f9.filter fun r => speakB r tr L1 L2) = aboutL p tr (upS p x) (upO p y) := by
  unfold aboutL
  congr 1
  funext r
  unfold speakB
  rw [memB_same h1, memB_same h2]
  rfl
theorem rowA_none (p : Pol) (s o : Sd) (xs : List ByteArray) (h : aboutL p s.t s.us o.us = []) : rowA p s o xs = [] := by
  unfold rowA
  rw [h]
  simp [allowB]
abbrev rr14.ns : List (Option Tmp) := [some 60, some 61, some 62, some 63, some 64, some 65, some 66, some 67, some 68, some 12]
def rr14.T : Bool × List (List Nat × List Nat) := (true, [([], []), ([0], [0]), ([], []), ([2], [2]), ([], []), ([], []), ([4, 5], [4, 5]), ([6], [6]), ([1, 3, 7], [1, 3, 7]), ([8, 8, 0, 1, 2, 3, 4, 5, 6, 7, 8], [8])])
theorem rr14.tab : rtab .any (opsOf Try.f27 14) = rr14.T := by kernel_rfl
def rr14.V (w : World) (p : Pol) (b1 : Nat) (A5 : Option Addr) (c5 : Nat) (A6 : Option Addr) (c6 : Nat) (x : ByteArray) (ad : Addr) (n y k : Nat) : Nat → Value → World → Prop
  | 0 => fun v _ => v = .pointer (some ⟨b1, 5, none⟩)
  | 1 => fun v _ => v = .slice A5 p.f5.length c5
  | 2 => fun v _ => v = .pointer (some ⟨b1, 6, none⟩)
  | 3 => fun v _ => v = .slice A6 p.f6.length c6
  | 4 => fun v _ => v = .slice (some ad) n y
  | 5 => fun v _ => v = .int .i64 (k : Nat)
  | 6 => fun v _ => v = .pointer (some (ad.add k))
  | 7 => fun v _ => v = .string x
  | 8 => fun v W => ∃ A c L, v = .slice A L.length c ∧ (L.length ≤ 4194304 ∧ ∀ y, y ∈ L ↔ y ∈ upL (p.f5 ++ p.f6) x) ∧ Kd.R Kd.string 9 W w.heap.size (fun _ => True) (.slice A L.length c) L
  | 9 => fun v W => ∃ A c L, v = .slice A L.length c ∧ (L.length ≤ 4194304 ∧ ∀ y, y ∈ L ↔ y ∈ upL (p.f5 ++ p.f6) x) ∧ Kd.R Kd.string 9 W w.heap.size (fun _ => True) (.slice A L.length c) L
  | _ => fun _ _ => False
set_option maxRecDepth 100000 in
set_option maxHeartbeats 2000000 in
theorem rr14 {Q : Exit → Act → World → Prop} {id : Nat} {a : Act} {w : World} {p : Pol} {b1 : Nat} {A0 : Option Addr} {c0 : Nat} {A1 : Option Addr} {c1 : Nat} {A2 : Option Addr} {c2 : Nat} {A3 : Option Addr} {c3 : Nat} {A4 : Option Addr} {c4 : Nat} {A5 : Option Addr} {c5 : Nat} {A6 : Option Addr} {c6 : Nat} {A7 : Option Addr} {c7 : Nat} {A8 : Option Addr} {c8 : Nat} {A9 : Option Addr} {c9 : Nat} {A10 : Option Addr} {c10 : Nat}{w0 : World} {v3 v4 v5 : Value} {wl ol al : List ByteArray}  {x : ByteArray} {ad : Addr} {n y k : Nat} (hm : Try.prog.follows .mixedOrders = true) (hs : a.tmps.size = 117) (h1 : a.eval (.tmp 1) = .pointer (some ⟨b1, 0, none⟩)) (h3 : a.eval (.tmp 3) = .slice (some ad) n y) (h9 : a.eval (.tmp 9) = .int .i64 (k : Nat)) (hS : RrS w0 b1 #[.slice A0 p.f0.length c0, .slice A1 p.f1.length c1, .slice A2 p.f2.length c2, .slice A3 p.f3.length c3, .slice A4 p.f4.length c4, .slice A5 p.f5.length c5, .slice A6 p.f6.length c6, .slice A7 p.f7.length c7, .slice A8 p.f8.length c8, .slice A9 p.f9.length c9, .slice A10 p.f10.length c10] v3 v4 v5 wl ol al w) (h_x : w.cell? (ad.add k) = some (.string x)) (hk : k < n) (q5 : Kd.C k86 w A5 p.f5.length p.f5) (l5 : p.f5.length ≤ c5) (s5 : p.f5.length ≤ 1048576) (q6 : Kd.C k86 w A6 p.f6.length p.f6) (l6 : p.f6.length ≤ c6) (s6 : p.f6.length ≤ 1048576)
    (hdone : ∀ (xs : Nat → Value) (W : World), Below w.heap.size w W → rr14.V w p b1 A5 c5 A6 c6 x ad n y k 9 (xs 9) W → Q .normal (putZ a rr14.ns 0 xs) W) :
    (Code.region id (opsOf Try.f27 14) true).wp Try.prog Q a w := by
  refine region_predx (T := rr14.T) 10 (fun l xs W => Below w.heap.size w W) (rr14.V w p b1 A5 c5 A6 c6 x ad n y k) hm (by kernel_rfl) rr14.tab (by kernel_rfl) (by kernel_rfl) ?h0 ?hI ?hsteps ?hd
  case h0 => exact fun _ _ => below_drew (Below.refl _ _)
  case hI => exact fun _ h => h
  case hd =>
    intro xs W hI hV
    exact hdone xs W hI (hV 9 (by decide))
  case hsteps =>
    have hsz : ∀ t, t < 117 → t < a.tmps.size := fun t ht => by rw [hs]; exact ht
    refine ⟨?_, ?_, ?_, ?_, ?_, ?_, ?_, ?_, ?_, ?_, trivial⟩
    · refine step_op (Op.fieldAddr 34 (.tmp 1) 5) (some 60) [] rr14.ns (by kernel_rfl) rfl (by kernel_rfl) (fun o ho hd hw l xs W hF hl hn K hK => ?_)
      have e1 := eval_o (xs := xs) (ns := rr14.ns) h1
      exact value_ (v := .pointer (some ⟨b1, 5, none⟩)) (hw _) hd (w1 := W) (by simp only [execOp, ho, e1]; go_simp) (hK.out _ _ (hF.now hF.1 rfl))
    · refine step_op (Op.load 30 (.tmp 60)) (some 61) [0] rr14.ns (by kernel_rfl) rfl (by kernel_rfl) (fun o ho hd hw l xs W hF hl hn K hK => ?_)
      have e1 : (putZ a rr14.ns 0 xs).eval (.tmp 60) = .pointer (some ⟨b1, 5, none⟩) := (eval_z 0 (hsz 60 (by decide))).trans (hF.get 0 hn.1)
      have hc := (blk_cell (blk_below hS.h1 hF.1) 5).trans (show _ = some (Value.slice A5 p.f5.length c5) from rfl)
      exact value_ (v := .slice A5 p.f5.length c5) (hw _) hd (w1 := W) (by simp only [execOp, ho, e1]; go_simp) (hK.out _ _ (hF.now hF.1 rfl))
    · refine step_op (Op.fieldAddr 34 (.tmp 1) 6) (some 62) [] rr14.ns (by kernel_rfl) rfl (by kernel_rfl) (fun o ho hd hw l xs W hF hl hn K hK => ?_)
      have e1 := eval_o (xs := xs) (ns := rr14.ns) h1
      exact value_ (v := .pointer (some ⟨b1, 6, none⟩)) (hw _) hd (w1 := W) (by simp only [execOp, ho, e1]; go_simp) (hK.out _ _ (hF.now hF.1 rfl))
    · refine step_op (Op.load 30 (.tmp 62)) (some 63) [2] rr14.ns (by kernel_rfl) rfl (by kernel_rfl) (fun o ho hd hw l xs W hF hl hn K hK => ?_)
      have e1 : (putZ a rr14.ns 0 xs).eval (.tmp 62) = .pointer (some ⟨b1, 6, none⟩) := (eval_z 2 (hsz 62 (by decide))).trans (hF.get 2 hn.1)
      have hc := (blk_cell (blk_below hS.h1 hF.1) 6).trans (show _ = some (Value.slice A6 p.f6.length c6) from rfl)
      exact value_ (v := .slice A6 p.f6.length c6) (hw _) hd (w1 := W) (by simp only [execOp, ho, e1]; go_simp) (hK.out _ _ (hF.now hF.1 rfl))
    · refine step_op (Op.move (.tmp 3)) (some 64) [] rr14.ns (by kernel_rfl) rfl (by kernel_rfl) (fun o ho hd hw l xs W hF hl hn K hK => ?_)
      have e1 := eval_o (xs := xs) (ns := rr14.ns) h3
      exact value_ (v := .slice (some ad) n y) (hw _) hd (w1 := W) (by simp only [execOp, ho, e1]; go_simp) (hK.out _ _ (hF.now hF.1 rfl))
    · refine step_op (Op.move (.tmp 9)) (some 65) [] rr14.ns (by kernel_rfl) rfl (by kernel_rfl) (fun o ho hd hw l xs W hF hl hn K hK => ?_)
      have e1 := eval_o (xs := xs) (ns := rr14.ns) h9
      exact value_ (v := .int .i64 (k : Nat)) (hw _) hd (w1 := W) (by simp only [execOp, ho, e1]; go_simp) (hK.out _ _ (hF.now hF.1 rfl))
    · refine step_op (Op.indexAddr 25 (.tmp 64) (.tmp 65)) (some 66) [4, 5] rr14.ns (by kernel_rfl) rfl (by kernel_rfl) (fun o ho hd hw l xs W hF hl hn K hK => ?_)
      have e1 : (putZ a rr14.ns 0 xs).eval (.tmp 64) = .slice (some ad) n y := (eval_z 4 (hsz 64 (by decide))).trans (hF.get 4 hn.1)
      have e2 : (putZ a rr14.ns 0 xs).eval (.tmp 65) = .int .i64 (k : Nat) := (eval_z 5 (hsz 65 (by decide))).trans (hF.get 5 hn.2.1)
      have i0 : (0 : Int) ≤ (k : Int) := by omega
      have i1 : (k : Int) < (n : Int) := by omega
      exact value_ (v := .pointer (some (ad.add k))) (hw _) hd (w1 := W) (by simp only [execOp, ho, e1, e2]; go_simp) (hK.out _ _ (hF.now hF.1 rfl))
    · refine step_op (Op.load 9 (.tmp 66)) (some 67) [6] rr14.ns (by kernel_rfl) rfl (by kernel_rfl) (fun o ho hd hw l xs W hF hl hn K hK => ?_)
      have e1 : (putZ a rr14.ns 0 xs).eval (.tmp 66) = .pointer (some (ad.add k)) := (eval_z 6 (hsz 66 (by decide))).trans (hF.get 6 hn.1)
      have hc := hCb hF.1 h_x
      exact value_ (v := .string x) (hw _) hd (w1 := W) (by simp only [execOp, ho, e1]; go_simp) (hK.out _ _ (hF.now hF.1 rfl))
    · refine step_op (Op.call { callee := .value (.func 53), args := #[.tmp 61, .tmp 63, .tmp 67], argTypes := #[30, 30, 9] }) (some 68) [1, 3, 7] rr14.ns (by kernel_rfl) rfl (by kernel_rfl) (fun o ho hd hw l xs W hF hl hn K hK => ?_)
      have e1 : (putZ a rr14.ns 0 xs).eval (.tmp 61) = .slice A5 p.f5.length c5 := (eval_z 1 (hsz 61 (by decide))).trans (hF.get 1 hn.1)
      have e2 : (putZ a rr14.ns 0 xs).eval (.tmp 63) = .slice A6 p.f6.length c6 := (eval_z 3 (hsz 63 (by decide))).trans (hF.get 3 hn.2.1)
      have e3 : (putZ a rr14.ns 0 xs).eval (.tmp 67) = .string x := (eval_z 7 (hsz 67 (by decide))).trans (hF.get 7 hn.2.2.1)
      refine goes_ Try.func53 (by kernel_rfl) rfl #[.slice A5 p.f5.length c5, .slice A6 p.f6.length c6, .string x] (hw _) hd ho (by simp only [List.map_toArray, List.map_cons, List.map_nil, e1, e2, e3]) ?_
      refine (rups_k p.f5 p.f6 A5 A6 c5 c6 x W (Kd.C_below q5 hF.1) l5 (Kd.C_below q6 hF.1) l6 s5 s6).mono ?_
      rintro e W' ⟨v, L, rfl, hL, hR, hb⟩
      obtain ⟨A, c, rfl⟩ := Kd.R_slice hR
      refine ⟨_, rfl, hK.out _ _ (hF.up (hF.1.trans (hb.mono hF.1.size)) (fun j v hj hlj hv => ?_) ⟨A, c, L, rfl, hL, Kd.R_lower hR hF.1.size⟩)⟩
      match j, hj with
      | 0, _ => exact hv
      | 1, _ => exact hv
      | 2, _ => exact hv
      | 3, _ => exact hv
      | 4, _ => exact hv
      | 5, _ => exact hv
      | 6, _ => exact hv
      | 7, _ => exact hv
      | 8, _ => obtain ⟨A, c, L, rfl, hL, hR2⟩ := hv; exact ⟨A, c, L, rfl, hL, Kd.R_below hR2 hb⟩
      | 9, _ => obtain ⟨A, c, L, rfl, hL, hR2⟩ := hv; exact ⟨A, c, L, rfl, hL, Kd.R_below hR2 hb⟩
    · refine step_op (Op.assign (.tmp 68)) (some 12) [8, 8, 0, 1, 2, 3, 4, 5, 6, 7, 8] rr14.ns (by kernel_rfl) rfl (by kernel_rfl) (fun o ho hd hw l xs W hF hl hn K hK => ?_)
      have e1 : (putZ a rr14.ns 0 xs).eval (.tmp 68) = xs 8 := eval_z 8 (hsz 68 (by decide))
      have e1V := hF.get 8 hn.1
      exact value_ (v := xs 8) (hw _) hd (w1 := W) (by simp only [execOp, ho, e1]; go_simp) (hK.out _ _ (hF.now hF.1 e1V))
abbrev rr13.ns : List (Option Tmp) := [some 52, some 53, some 54, some 55, some 56, some 57, some 51, some 58, some 59, some 10, some 11]
def rr13.T : Bool × List (List Nat × List Nat) := (true, [([], []), ([], []), ([], []), ([1, 2], [1, 2]), ([3], [3]), ([0, 4], [0, 4]), ([5], [5]), ([6], [6]), ([6], [6]), ([7, 5, 0, 1, 2, 3, 4, 5, 6, 7], [7]), ([8, 9, 0, 1, 2, 3, 4, 5, 6, 7, 8, 9], [8])])
theorem rr13.tab : rtab .any (opsOf Try.f27 13) = rr13.T := by kernel_rfl
def rr13.V (p : Pol) (A0 : Option Addr) (c0 : Nat) (A1 : Option Addr) (c1 : Nat) (A2 : Option Addr) (c2 : Nat) (A3 : Option Addr) (c3 : Nat) (A4 : Option Addr) (c4 : Nat) (A5 : Option Addr) (c5 : Nat) (A6 : Option Addr) (c6 : Nat) (A7 : Option Addr) (c7 : Nat) (A8 : Option Addr) (c8 : Nat) (A9 : Option Addr) (c9 : Nat) (A10 : Option Addr) (c10 : Nat) (x : ByteArray) (ad : Addr) (n y k : Nat) : Nat → Value → World → Prop
  | 0 => fun v _ => v = .agg #[.slice A0 p.f0.length c0, .slice A1 p.f1.length c1, .slice A2 p.f2.length c2, .slice A3 p.f3.length c3, .slice A4 p.f4.length c4, .slice A5 p.f5.length c5, .slice A6 p.f6.length c6, .slice A7 p.f7.length c7, .slice A8 p.f8.length c8, .slice A9 p.f9.length c9, .slice A10 p.f10.length c10]
  | 1 => fun v _ => v = .slice (some ad) n y
  | 2 => fun v _ => v = .int .i64 (k : Nat)
  | 3 => fun v _ => v = .pointer (some (ad.add k))
  | 4 => fun v _ => v = .string x
  | 5 => fun v _ => v = .tuple #[.float .f64 ((trustOf p.f1 x).getD 0), .bool (trustOf p.f1 x).isSome]
  | 6 => fun v _ => v = .tuple #[.float .f64 ((trustOf p.f1 x).getD 0), .bool (trustOf p.f1 x).isSome]
  | 7 => fun v _ => v = .float .f64 ((trustOf p.f1 x).getD 0)
  | 8 => fun v _ => v = .bool (trustOf p.f1 x).isSome
  | 9 => fun v _ => v = .float .f64 ((trustOf p.f1 x).getD 0)
  | 10 => fun v _ => v = .bool (trustOf p.f1 x).isSome
  | _ => fun _ _ => False
set_option maxRecDepth 100000 in
set_option maxHeartbeats 2000000 in
theorem rr13 {Q : Exit → Act → World → Prop} {id : Nat} {a : Act} {w : World} {p : Pol} {b1 : Nat} {A0 : Option Addr} {c0 : Nat} {A1 : Option Addr} {c1 : Nat} {A2 : Option Addr} {c2 : Nat} {A3 : Option Addr} {c3 : Nat} {A4 : Option Addr} {c4 : Nat} {A5 : Option Addr} {c5 : Nat} {A6 : Option Addr} {c6 : Nat} {A7 : Option Addr} {c7 : Nat} {A8 : Option Addr} {c8 : Nat} {A9 : Option Addr} {c9 : Nat} {A10 : Option Addr} {c10 : Nat}{w0 : World} {v3 v4 v5 : Value} {wl ol al : List ByteArray}  {x : ByteArray} {ad : Addr} {n y k : Nat} (hm : Try.prog.follows .mixedOrders = true) (hs : a.tmps.size = 117) (h1 : a.eval (.tmp 1) = .pointer (some ⟨b1, 0, none⟩)) (h3 : a.eval (.tmp 3) = .slice (some ad) n y) (h9 : a.eval (.tmp 9) = .int .i64 (k : Nat)) (hS : RrS w0 b1 #[.slice A0 p.f0.length c0, .slice A1 p.f1.length c1, .slice A2 p.f2.length c2, .slice A3 p.f3.length c3, .slice A4 p.f4.length c4, .slice A5 p.f5.length c5, .slice A6 p.f6.length c6, .slice A7 p.f7.length c7, .slice A8 p.f8.length c8, .slice A9 p.f9.length c9, .slice A10 p.f10.length c10] v3 v4 v5 wl ol al w) (h_x : w.cell? (ad.add k) = some (.string x)) (hk : k < n) (hk0 : k34.K w0 p [.slice A0 p.f0.length c0, .slice A1 p.f1.length c1, .slice A2 p.f2.length c2, .slice A3 p.f3.length c3, .slice A4 p.f4.length c4, .slice A5 p.f5.length c5, .slice A6 p.f6.length c6, .slice A7 p.f7.length c7, .slice A8 p.f8.length c8, .slice A9 p.f9.length c9, .slice A10 p.f10.length c10]) (hz : Sz p)
    (hdone : ∀ (xs : Nat → Value) (W : World), Below w.heap.size w W → xs 9 = .float .f64 ((trustOf p.f1 x).getD 0) → xs 10 = .bool (trustOf p.f1 x).isSome → Q .normal (putZ a rr13.ns 0 xs) W) :
    (Code.region id (opsOf Try.f27 13) true).wp Try.prog Q a w := by
  refine region_predx (T := rr13.T) 11 (fun l xs W => Below w.heap.size w W) (rr13.V p A0 c0 A1 c1 A2 c2 A3 c3 A4 c4 A5 c5 A6 c6 A7 c7 A8 c8 A9 c9 A10 c10 x ad n y k) hm (by kernel_rfl) rr13.tab (by kernel_rfl) (by kernel_rfl) ?h0 ?hI ?hsteps ?hd
  case h0 => exact fun _ _ => below_drew (Below.refl _ _)
  case hI => exact fun _ h => h
  case hd =>
    intro xs W hI hV
    exact hdone xs W hI (hV 9 (by decide)) (hV 10 (by decide))
  case hsteps =>
    have hsz : ∀ t, t < 117 → t < a.tmps.size := fun t ht => by rw [hs]; exact ht
    refine ⟨?_, ?_, ?_, ?_, ?_, ?_, ?_, ?_, ?_, ?_, ?_, trivial⟩
    · refine step_op (Op.load 34 (.tmp 1)) (some 52) [] rr13.ns (by kernel_rfl) rfl (by kernel_rfl) (fun o ho hd hw l xs W hF hl hn K hK => ?_)
      have e1 := eval_o (xs := xs) (ns := rr13.ns) h1
      exact load_c (hw _) hd ho b1 e1 (blk_below hS.h1 hF.1) Try.underlying34 rfl (by kernel_rfl) (hK.out _ _ (hF.now hF.1 rfl))
    · refine step_op (Op.move (.tmp 3)) (some 53) [] rr13.ns (by kernel_rfl) rfl (by kernel_rfl) (fun o ho hd hw l xs W hF hl hn K hK => ?_)
      have e1 := eval_o (xs := xs) (ns := rr13.ns) h3
      exact value_ (v := .slice (some ad) n y) (hw _) hd (w1 := W) (by simp only [execOp, ho, e1]; go_simp) (hK.out _ _ (hF.now hF.1 rfl))
    · refine step_op (Op.move (.tmp 9)) (some 54) [] rr13.ns (by kernel_rfl) rfl (by kernel_rfl) (fun o ho hd hw l xs W hF hl hn K hK => ?_)
      have e1 := eval_o (xs := xs) (ns := rr13.ns) h9
      exact value_ (v := .int .i64 (k : Nat)) (hw _) hd (w1 := W) (by simp only [execOp, ho, e1]; go_simp) (hK.out _ _ (hF.now hF.1 rfl))
    · refine step_op (Op.indexAddr 25 (.tmp 53) (.tmp 54)) (some 55) [1, 2] rr13.ns (by kernel_rfl) rfl (by kernel_rfl) (fun o ho hd hw l xs W hF hl hn K hK => ?_)
      have e1 : (putZ a rr13.ns 0 xs).eval (.tmp 53) = .slice (some ad) n y := (eval_z 1 (hsz 53 (by decide))).trans (hF.get 1 hn.1)
      have e2 : (putZ a rr13.ns 0 xs).eval (.tmp 54) = .int .i64 (k : Nat) := (eval_z 2 (hsz 54 (by decide))).trans (hF.get 2 hn.2.1)
      have i0 : (0 : Int) ≤ (k : Int) := by omega
      have i1 : (k : Int) < (n : Int) := by omega
      exact value_ (v := .pointer (some (ad.add k))) (hw _) hd (w1 := W) (by simp only [execOp, ho, e1, e2]; go_simp) (hK.out _ _ (hF.now hF.1 rfl))
    · refine step_op (Op.load 9 (.tmp 55)) (some 56) [3] rr13.ns (by kernel_rfl) rfl (by kernel_rfl) (fun o ho hd hw l xs W hF hl hn K hK => ?_)
      have e1 : (putZ a rr13.ns 0 xs).eval (.tmp 55) = .pointer (some (ad.add k)) := (eval_z 3 (hsz 55 (by decide))).trans (hF.get 3 hn.1)
      have hc := hCb hF.1 h_x
      exact value_ (v := .string x) (hw _) hd (w1 := W) (by simp only [execOp, ho, e1]; go_simp) (hK.out _ _ (hF.now hF.1 rfl))
    · refine step_op (Op.call { callee := .value (.func 50), args := #[.tmp 52, .tmp 56], argTypes := #[34, 9] }) (some 57) [0, 4] rr13.ns (by kernel_rfl) rfl (by kernel_rfl) (fun o ho hd hw l xs W hF hl hn K hK => ?_)
      have e1 : (putZ a rr13.ns 0 xs).eval (.tmp 52) = .agg #[.slice A0 p.f0.length c0, .slice A1 p.f1.length c1, .slice A2 p.f2.length c2, .slice A3 p.f3.length c3, .slice A4 p.f4.length c4, .slice A5 p.f5.length c5, .slice A6 p.f6.length c6, .slice A7 p.f7.length c7, .slice A8 p.f8.length c8, .slice A9 p.f9.length c9, .slice A10 p.f10.length c10] := (eval_z 0 (hsz 52 (by decide))).trans (hF.get 0 hn.1)
      have e2 : (putZ a rr13.ns 0 xs).eval (.tmp 56) = .string x := (eval_z 4 (hsz 56 (by decide))).trans (hF.get 4 hn.2.1)
      refine goes_ Try.func50 (by kernel_rfl) rfl #[.agg #[.slice A0 p.f0.length c0, .slice A1 p.f1.length c1, .slice A2 p.f2.length c2, .slice A3 p.f3.length c3, .slice A4 p.f4.length c4, .slice A5 p.f5.length c5, .slice A6 p.f6.length c6, .slice A7 p.f7.length c7, .slice A8 p.f8.length c8, .slice A9 p.f9.length c9, .slice A10 p.f10.length c10], .string x] (hw _) hd ho (by simp only [List.map_toArray, List.map_cons, List.map_nil, e1, e2]) ?_
      refine (rtrust_k p _ x W (k34.K_below (hS.bel.trans (hF.1.mono hS.bel.size)) hk0) hz).mono ?_
      rintro e W' ⟨rfl, hb⟩
      refine ⟨_, rfl, hK.out _ _ (hF.up (hF.1.trans (hb.mono hF.1.size)) (fun j v hj hlj hv => ?_) rfl)⟩
      match j, hj with
      | 0, _ => exact hv
      | 1, _ => exact hv
      | 2, _ => exact hv
      | 3, _ => exact hv
      | 4, _ => exact hv
      | 5, _ => exact hv
      | 6, _ => exact hv
      | 7, _ => exact hv
      | 8, _ => exact hv
      | 9, _ => exact hv
      | 10, _ => exact hv
    · refine step_op (Op.move (.tmp 57)) (some 51) [5] rr13.ns (by kernel_rfl) rfl (by kernel_rfl) (fun o ho hd hw l xs W hF hl hn K hK => ?_)
      have e1 : (putZ a rr13.ns 0 xs).eval (.tmp 57) = .tuple #[.float .f64 ((trustOf p.f1 x).getD 0), .bool (trustOf p.f1 x).isSome] := (eval_z 5 (hsz 57 (by decide))).trans (hF.get 5 hn.1)
      exact value_ (v := .tuple #[.float .f64 ((trustOf p.f1 x).getD 0), .bool (trustOf p.f1 x).isSome]) (hw _) hd (w1 := W) (by simp only [execOp, ho, e1]; go_simp) (hK.out _ _ (hF.now hF.1 rfl))
    · refine step_op (Op.extract (.tmp 51) 0) (some 58) [6] rr13.ns (by kernel_rfl) rfl (by kernel_rfl) (fun o ho hd hw l xs W hF hl hn K hK => ?_)
      have e1 : (putZ a rr13.ns 0 xs).eval (.tmp 51) = .tuple #[.float .f64 ((trustOf p.f1 x).getD 0), .bool (trustOf p.f1 x).isSome] := (eval_z 6 (hsz 51 (by decide))).trans (hF.get 6 hn.1)
      exact value_ (v := .float .f64 ((trustOf p.f1 x).getD 0)) (hw _) hd (w1 := W) (by simp only [execOp, ho, e1]; go_simp) (hK.out _ _ (hF.now hF.1 rfl))
    · refine step_op (Op.extract (.tmp 51) 1) (some 59) [6] rr13.ns (by kernel_rfl) rfl (by kernel_rfl) (fun o ho hd hw l xs W hF hl hn K hK => ?_)
      have e1 : (putZ a rr13.ns 0 xs).eval (.tmp 51) = .tuple #[.float .f64 ((trustOf p.f1 x).getD 0), .bool (trustOf p.f1 x).isSome] := (eval_z 6 (hsz 51 (by decide))).trans (hF.get 6 hn.1)
      exact value_ (v := .bool (trustOf p.f1 x).isSome) (hw _) hd (w1 := W) (by simp only [execOp, ho, e1]; go_simp) (hK.out _ _ (hF.now hF.1 rfl))
    · refine step_op (Op.assign (.tmp 58)) (some 10) [7, 5, 0, 1, 2, 3, 4, 5, 6, 7] rr13.ns (by kernel_rfl) rfl (by kernel_rfl) (fun o ho hd hw l xs W hF hl hn K hK => ?_)
      have e1 : (putZ a rr13.ns 0 xs).eval (.tmp 58) = .float .f64 ((trustOf p.f1 x).getD 0) := (eval_z 7 (hsz 58 (by decide))).trans (hF.get 7 hn.1)
      exact value_ (v := .float .f64 ((trustOf p.f1 x).getD 0)) (hw _) hd (w1 := W) (by simp only [execOp, ho, e1]; go_simp) (hK.out _ _ (hF.now hF.1 rfl))
    · refine step_op (Op.assign (.tmp 59)) (some 11) [8, 9, 0, 1, 2, 3, 4, 5, 6, 7, 8, 9] rr13.ns (by kernel_rfl) rfl (by kernel_rfl) (fun o ho hd hw l xs W hF hl hn K hK => ?_)
      have e1 : (putZ a rr13.ns 0 xs).eval (.tmp 59) = .bool (trustOf p.f1 x).isSome := (eval_z 8 (hsz 59 (by decide))).trans (hF.get 8 hn.1)
      exact value_ (v := .bool (trustOf p.f1 x).isSome) (hw _) hd (w1 := W) (by simp only [execOp, ho, e1]; go_simp) (hK.out _ _ (hF.now hF.1 rfl))
abbrev rr18.ns : List (Option Tmp) := [some 75, some 76, some 77, some 78, some 79, some 80, some 81, some 82, some 14]
def rr18.T : Bool × List (List Nat × List Nat) := (true, [([], []), ([], []), ([], []), ([], []), ([], []), ([3, 4], [3, 4]), ([5], [5]), ([0, 1, 2, 6], [0, 1, 2, 6]), ([7, 7, 0, 1, 2, 3, 4, 5, 6, 7], [7])])
theorem rr18.tab : rtab .any (opsOf Try.f27 18) = rr18.T := by kernel_rfl
def rr18.V (w0 w : World) (p : Pol) (A0 : Option Addr) (c0 : Nat) (A1 : Option Addr) (c1 : Nat) (A2 : Option Addr) (c2 : Nat) (A3 : Option Addr) (c3 : Nat) (A4 : Option Addr) (c4 : Nat) (A5 : Option Addr) (c5 : Nat) (A6 : Option Addr) (c6 : Nat) (A7 : Option Addr) (c7 : Nat) (A8 : Option Addr) (c8 : Nat) (A9 : Option Addr) (c9 : Nat) (A10 : Option Addr) (c10 : Nat) (B1 : Option Addr) (L1 : List ByteArray) (d1 tr : Nat) (B2 : Option Addr) (L2 : List ByteArray) (d2 : Nat) (ad : Addr) (n y k : Nat) : Nat → Value → World → Prop
  | 0 => fun v _ => v = .agg #[.slice A0 p.f0.length c0, .slice A1 p.f1.length c1, .slice A2 p.f2.length c2, .slice A3 p.f3.length c3, .slice A4 p.f4.length c4, .slice A5 p.f5.length c5, .slice A6 p.f6.length c6, .slice A7 p.f7.length c7, .slice A8 p.f8.length c8, .slice A9 p.f9.length c9, .slice A10 p.f10.length c10]
  | 1 => fun v _ => v = .slice B1 L1.length d1
  | 2 => fun v _ => v = .float .f64 tr
  | 3 => fun v _ => v = .slice (some ad) n y
  | 4 => fun v _ => v = .int .i64 (k : Nat)
  | 5 => fun v _ => v = .pointer (some (ad.add k))
  | 6 => fun v _ => v = .slice B2 L2.length d2
  | 7 => fun v W => Kd.N k27 27 W w.heap.size (fun k => k < w0.heap.size ∨ w.heap.size ≤ k) v (p.f9.filter fun r => speakB r tr L1 L2)
  | 8 => fun v W => Kd.N k27 27 W w.heap.size (fun k => k < w0.heap.size ∨ w.heap.size ≤ k) v (p.f9.filter fun r => speakB r tr L1 L2)
  | _ => fun _ _ => False
set_option maxRecDepth 100000 in
set_option maxHeartbeats 2000000 in
theorem rr18 {Q : Exit → Act → World → Prop} {id : Nat} {a : Act} {w : World} {p : Pol} {b1 : Nat} {A0 : Option Addr} {c0 : Nat} {A1 : Option Addr} {c1 : Nat} {A2 : Option Addr} {c2 : Nat} {A3 : Option Addr} {c3 : Nat} {A4 : Option Addr} {c4 : Nat} {A5 : Option Addr} {c5 : Nat} {A6 : Option Addr} {c6 : Nat} {A7 : Option Addr} {c7 : Nat} {A8 : Option Addr} {c8 : Nat} {A9 : Option Addr} {c9 : Nat} {A10 : Option Addr} {c10 : Nat}{w0 : World} {v3 v4 v5 : Value} {wl ol al : List ByteArray}  {ad : Addr} {n y k tr d1 d2 : Nat} {B1 B2 : Option Addr} {L1 L2 : List ByteArray} (hm : Try.prog.follows .mixedOrders = true) (hs : a.tmps.size = 117) (h1 : a.eval (.tmp 1) = .pointer (some ⟨b1, 0, none⟩)) (h12 : a.eval (.tmp 12) = .slice B1 L1.length d1) (h10 : a.eval (.tmp 10) = .float .f64 tr) (h6 : a.eval (.tmp 6) = .slice (some ad) n y) (h13 : a.eval (.tmp 13) = .int .i64 (k : Nat)) (hS : RrS w0 b1 #[.slice A0 p.f0.length c0, .slice A1 p.f1.length c1, .slice A2 p.f2.length c2, .slice A3 p.f3.length c3, .slice A4 p.f4.length c4, .slice A5 p.f5.length c5, .slice A6 p.f6.length c6, .slice A7 p.f7.length c7, .slice A8 p.f8.length c8, .slice A9 p.f9.length c9, .slice A10 p.f10.length c10] v3 v4 v5 wl ol al w) (h_x : w.cell? (ad.add k) = some (.slice B2 L2.length d2)) (hk : k < n) (hk0 : k34.K w0 p [.slice A0 p.f0.length c0, .slice A1 p.f1.length c1, .slice A2 p.f2.length c2, .slice A3 p.f3.length c3, .slice A4 p.f4.length c4, .slice A5 p.f5.length c5, .slice A6 p.f6.length c6, .slice A7 p.f7.length c7, .slice A8 p.f8.length c8, .slice A9 p.f9.length c9, .slice A10 p.f10.length c10]) (hz : Sz p) (g1 : Kd.C Kd.string w B1 L1.length L1) (m1 : L1.length ≤ d1) (n1 : L1.length ≤ 4194304) (g2 : Kd.C Kd.string w B2 L2.length L2) (m2 : L2.length ≤ d2) (n2 : L2.length ≤ 4194304)
    (hdone : ∀ (xs : Nat → Value) (W : World), Below w.heap.size w W → Kd.N k27 27 W w.heap.size (fun k => k < w0.heap.size ∨ w.heap.size ≤ k) (xs 8) (p.f9.filter fun r => speakB r tr L1 L2) → Q .normal (putZ a rr18.ns 0 xs) W) :
    (Code.region id (opsOf Try.f27 18) true).wp Try.prog Q a w := by
  refine region_predx (T := rr18.T) 9 (fun l xs W => Below w.heap.size w W) (rr18.V w0 w p A0 c0 A1 c1 A2 c2 A3 c3 A4 c4 A5 c5 A6 c6 A7 c7 A8 c8 A9 c9 A10 c10 B1 L1 d1 tr B2 L2 d2 ad n y k) hm (by kernel_rfl) rr18.tab (by kernel_rfl) (by kernel_rfl) ?h0 ?hI ?hsteps ?hd
  case h0 => exact fun _ _ => below_drew (Below.refl _ _)
  case hI => exact fun _ h => h
  case hd =>
    intro xs W hI hV
    exact hdone xs W hI (hV 8 (by decide))
  case hsteps =>
    have hsz : ∀ t, t < 117 → t < a.tmps.size := fun t ht => by rw [hs]; exact ht
    refine ⟨?_, ?_, ?_, ?_, ?_, ?_, ?_, ?_, ?_, trivial⟩
    · refine step_op (Op.load 34 (.tmp 1)) (some 75) [] rr18.ns (by kernel_rfl) rfl (by kernel_rfl) (fun o ho hd hw l xs W hF hl hn K hK => ?_)
      have e1 := eval_o (xs := xs) (ns := rr18.ns) h1
      exact load_c (hw _) hd ho b1 e1 (blk_below hS.h1 hF.1) Try.underlying34 rfl (by kernel_rfl) (hK.out _ _ (hF.now hF.1 rfl))
    · refine step_op (Op.move (.tmp 12)) (some 76) [] rr18.ns (by kernel_rfl) rfl (by kernel_rfl) (fun o ho hd hw l xs W hF hl hn K hK => ?_)
      have e1 := eval_o (xs := xs) (ns := rr18.ns) h12
      exact value_ (v := .slice B1 L1.length d1) (hw _) hd (w1 := W) (by simp only [execOp, ho, e1]; go_simp) (hK.out _ _ (hF.now hF.1 rfl))
    · refine step_op (Op.move (.tmp 10)) (some 77) [] rr18.ns (by kernel_rfl) rfl (by kernel_rfl) (fun o ho hd hw l xs W hF hl hn K hK => ?_)
      have e1 := eval_o (xs := xs) (ns := rr18.ns) h10
      exact value_ (v := .float .f64 tr) (hw _) hd (w1 := W) (by simp only [execOp, ho, e1]; go_simp) (hK.out _ _ (hF.now hF.1 rfl))
    · refine step_op (Op.move (.tmp 6)) (some 78) [] rr18.ns (by kernel_rfl) rfl (by kernel_rfl) (fun o ho hd hw l xs W hF hl hn K hK => ?_)
      have e1 := eval_o (xs := xs) (ns := rr18.ns) h6
      exact value_ (v := .slice (some ad) n y) (hw _) hd (w1 := W) (by simp only [execOp, ho, e1]; go_simp) (hK.out _ _ (hF.now hF.1 rfl))
    · refine step_op (Op.move (.tmp 13)) (some 79) [] rr18.ns (by kernel_rfl) rfl (by kernel_rfl) (fun o ho hd hw l xs W hF hl hn K hK => ?_)
      have e1 := eval_o (xs := xs) (ns := rr18.ns) h13
      exact value_ (v := .int .i64 (k : Nat)) (hw _) hd (w1 := W) (by simp only [execOp, ho, e1]; go_simp) (hK.out _ _ (hF.now hF.1 rfl))
    · refine step_op (Op.indexAddr 37 (.tmp 78) (.tmp 79)) (some 80) [3, 4] rr18.ns (by kernel_rfl) rfl (by kernel_rfl) (fun o ho hd hw l xs W hF hl hn K hK => ?_)
      have e1 : (putZ a rr18.ns 0 xs).eval (.tmp 78) = .slice (some ad) n y := (eval_z 3 (hsz 78 (by decide))).trans (hF.get 3 hn.1)
      have e2 : (putZ a rr18.ns 0 xs).eval (.tmp 79) = .int .i64 (k : Nat) := (eval_z 4 (hsz 79 (by decide))).trans (hF.get 4 hn.2.1)
      have i0 : (0 : Int) ≤ (k : Int) := by omega
      have i1 : (k : Int) < (n : Int) := by omega
      exact value_ (v := .pointer (some (ad.add k))) (hw _) hd (w1 := W) (by simp only [execOp, ho, e1, e2]; go_simp) (hK.out _ _ (hF.now hF.1 rfl))
    · refine step_op (Op.load 25 (.tmp 80)) (some 81) [5] rr18.ns (by kernel_rfl) rfl (by kernel_rfl) (fun o ho hd hw l xs W hF hl hn K hK => ?_)
      have e1 : (putZ a rr18.ns 0 xs).eval (.tmp 80) = .pointer (some (ad.add k)) := (eval_z 5 (hsz 80 (by decide))).trans (hF.get 5 hn.1)
      have hc := hCb hF.1 h_x
      exact value_ (v := .slice B2 L2.length d2) (hw _) hd (w1 := W) (by simp only [execOp, ho, e1]; go_simp) (hK.out _ _ (hF.now hF.1 rfl))
    · refine step_op (Op.call { callee := .value (.func 62), args := #[.tmp 75, .tmp 76, .tmp 77, .tmp 81], argTypes := #[34, 25, 24, 25] }) (some 82) [0, 1, 2, 6] rr18.ns (by kernel_rfl) rfl (by kernel_rfl) (fun o ho hd hw l xs W hF hl hn K hK => ?_)
      have e1 : (putZ a rr18.ns 0 xs).eval (.tmp 75) = .agg #[.slice A0 p.f0.length c0, .slice A1 p.f1.length c1, .slice A2 p.f2.length c2, .slice A3 p.f3.length c3, .slice A4 p.f4.length c4, .slice A5 p.f5.length c5, .slice A6 p.f6.length c6, .slice A7 p.f7.length c7, .slice A8 p.f8.length c8, .slice A9 p.f9.length c9, .slice A10 p.f10.length c10] := (eval_z 0 (hsz 75 (by decide))).trans (hF.get 0 hn.1)
      have e2 : (putZ a rr18.ns 0 xs).eval (.tmp 76) = .slice B1 L1.length d1 := (eval_z 1 (hsz 76 (by decide))).trans (hF.get 1 hn.2.1)
      have e3 : (putZ a rr18.ns 0 xs).eval (.tmp 77) = .float .f64 tr := (eval_z 2 (hsz 77 (by decide))).trans (hF.get 2 hn.2.2.1)
      have e4 : (putZ a rr18.ns 0 xs).eval (.tmp 81) = .slice B2 L2.length d2 := (eval_z 6 (hsz 81 (by decide))).trans (hF.get 6 hn.2.2.2.1)
      refine goes_ Try.func62 (by kernel_rfl) rfl #[.agg #[.slice A0 p.f0.length c0, .slice A1 p.f1.length c1, .slice A2 p.f2.length c2, .slice A3 p.f3.length c3, .slice A4 p.f4.length c4, .slice A5 p.f5.length c5, .slice A6 p.f6.length c6, .slice A7 p.f7.length c7, .slice A8 p.f8.length c8, .slice A9 p.f9.length c9, .slice A10 p.f10.length c10], .slice B1 L1.length d1, .float .f64 tr, .slice B2 L2.length d2] (hw _) hd ho (by simp only [List.map_toArray, List.map_cons, List.map_nil, e1, e2, e3, e4]) ?_
      refine (rone_k p _ w0 W hk0 hz (hS.bel.trans (hF.1.mono hS.bel.size)) L1 L2 B1 B2 d1 d2 tr (Kd.C_below g1 hF.1) m1 (Kd.C_below g2 hF.1) m2 n1 n2).mono ?_
      rintro e W' ⟨v, rfl, hN, hb⟩
      refine ⟨_, rfl, hK.out _ _ (hF.up (hF.1.trans (hb.mono hF.1.size)) (fun j v hj hlj hv => ?_) (Kd.N_mono (Kd.N_lower hN hF.1.size) (fun k hk => hk.imp (fun h => h) (fun h => Nat.le_trans hF.1.size h))))⟩
      match j, hj with
      | 0, _ => exact hv
      | 1, _ => exact hv
      | 2, _ => exact hv
      | 3, _ => exact hv
      | 4, _ => exact hv
      | 5, _ => exact hv
      | 6, _ => exact hv
      | 7, _ => exact Kd.N_below hv hb
      | 8, _ => exact Kd.N_below hv hb
    · refine step_op (Op.assign (.tmp 82)) (some 14) [7, 7, 0, 1, 2, 3, 4, 5, 6, 7] rr18.ns (by kernel_rfl) rfl (by kernel_rfl) (fun o ho hd hw l xs W hF hl hn K hK => ?_)
      have e1 : (putZ a rr18.ns 0 xs).eval (.tmp 82) = xs 7 := eval_z 7 (hsz 82 (by decide))
      have e1V := hF.get 7 hn.1
      exact value_ (v := xs 7) (hw _) hd (w1 := W) (by simp only [execOp, ho, e1]; go_simp) (hK.out _ _ (hF.now hF.1 e1V))
def rr22.I (w : World) (x y z : ByteArray) (l : Nat → Bool) (xs : Nat → Value) (W : World) : Prop :=
  Below w.heap.size w W ∧ (l 13 = false → W.heap.size = w.heap.size) ∧ (l 13 = true → xs 13 = .pointer (some ⟨w.heap.size, 0, none⟩) ∧ (l 14 = false → W.heap[w.heap.size]? = some (Obj.cells #[.string ⟨#[]⟩, .string ⟨#[]⟩, .string ⟨#[]⟩] 36 (0, 0)))) ∧ (l 14 = true → l 13 = true ∧ W.heap[w.heap.size]? = some (Obj.cells #[.string x, .string y, .string z] 36 (0, 0)))
theorem rr22.far {w : World} {x y z : ByteArray} {l : Nat → Bool} {xs : Nat → Value} {W : World} {i : Nat} {v : Value} (hi : i < 13) (h : rr22.I w x y z l xs W) : rr22.I w x y z (upd l i true) (upd xs i v) W := by
  unfold rr22.I
  rw [upd_other l true (show 13 ≠ i by omega), upd_other l true (show 14 ≠ i by omega), upd_other xs v (show 13 ≠ i by omega)]
  exact h
theorem rr22.same {w : World} {x y z : ByteArray} {l l' : Nat → Bool} {xs : Nat → Value} {W : World} (hl : ∀ j, j < 15 → l j = l' j) (h : rr22.I w x y z l xs W) : rr22.I w x y z l' xs W := by
  unfold rr22.I
  rw [← hl 13 (by decide), ← hl 14 (by decide)]
  exact h
abbrev rr22.ns : List (Option Tmp) := [some 94, some 95, some 96, some 97, some 98, some 99, some 100, some 101, some 102, some 103, some 104, some 105, some 106, some 16, none]
def rr22.T : Bool × List (List Nat × List Nat) := (true, [([], []), ([], []), ([0, 1], [0, 1]), ([2], [2]), ([], []), ([], []), ([4, 5], [4, 5]), ([6], [6]), ([], []), ([], []), ([8, 9], [8, 9]), ([10], [10]), ([3, 7, 11], [3, 7, 11]), ([], []), ([13, 12, 0, 1, 2, 3, 4, 5, 6, 7, 8, 9, 10, 11, 12, 13], [12, 13])]) 
theorem rr22.tab : rtab .any (opsOf Try.f27 22) = rr22.T := by kernel_rfl
def rr22.V (x y z : ByteArray) (adx ady adz : Addr) (nx ny nz yx yy yz ix iy iz : Nat) : Nat → Value → World → Prop
  | 0 => fun v _ => v = .slice (some adx) nx yx
  | 1 => fun v _ => v = .int .i64 (ix : Nat)
  | 2 => fun v _ => v = .pointer (some (adx.add ix))
  | 3 => fun v _ => v = .string x
  | 4 => fun v _ => v = .slice (some ady) ny yy
  | 5 => fun v _ => v = .int .i64 (iy : Nat)
  | 6 => fun v _ => v = .pointer (some (ady.add iy))
  | 7 => fun v _ => v = .string y
  | 8 => fun v _ => v = .slice (some adz) nz yz
  | 9 => fun v _ => v = .int .i64 (iz : Nat)
  | 10 => fun v _ => v = .pointer (some (adz.add iz))
  | 11 => fun v _ => v = .string z
  | 12 => fun v _ => v = .agg #[.string x, .string y, .string z]
  | 13 => fun _ _ => True
  | 14 => fun _ _ => True
  | _ => fun _ _ => False
set_option maxRecDepth 100000 in
set_option maxHeartbeats 2000000 in
theorem rr22 {Q : Exit → Act → World → Prop} {id : Nat} {a : Act} {w : World} {x y z : ByteArray} {adx ady adz : Addr} {nx ny nz yx yy yz ix iy iz : Nat} (hm : Try.prog.follows .mixedOrders = true) (hs : a.tmps.size = 117) (h3 : a.eval (.tmp 3) = .slice (some adx) nx yx) (h9 : a.eval (.tmp 9) = .int .i64 (ix : Nat)) (h4 : a.eval (.tmp 4) = .slice (some ady) ny yy) (h13 : a.eval (.tmp 13) = .int .i64 (iy : Nat)) (h5 : a.eval (.tmp 5) = .slice (some adz) nz yz) (h15 : a.eval (.tmp 15) = .int .i64 (iz : Nat)) (h_x : w.cell? (adx.add ix) = some (.string x)) (h_y : w.cell? (ady.add iy) = some (.string y)) (h_z : w.cell? (adz.add iz) = some (.string z)) (kx : ix < nx) (ky : iy < ny) (kz : iz < nz)
    (hdone : ∀ (xs : Nat → Value) (W : World), Below w.heap.size w W → xs 13 = .pointer (some ⟨w.heap.size, 0, none⟩) → W.heap[w.heap.size]? = some (Obj.cells #[.string x, .string y, .string z] 36 (0, 0)) → Q .normal (putZ a rr22.ns 0 xs) W) :
    (Code.region id (opsOf Try.f27 22) true).wp Try.prog Q a w := by
  refine region_predx (T := rr22.T) 15 (fun l xs W => rr22.I w x y z l xs W) (rr22.V x y z adx ady adz nx ny nz yx yy yz ix iy iz) hm (by kernel_rfl) rr22.tab (by kernel_rfl) (by kernel_rfl) ?h0 ?hI ?hsteps ?hd
  case h0 => exact fun _ _ => ⟨below_drew (Below.refl _ _), fun _ => rfl, fun h => absurd h Bool.false_ne_true, fun h => absurd h Bool.false_ne_true⟩
  case hI => exact fun hl h => rr22.same hl h
  case hd =>
    intro xs W hI hV
    obtain ⟨h0, h1, h2, h3⟩ := hI
    exact hdone xs W h0 (h2 rfl).1 (h3 rfl).2
  case hsteps =>
    have hsz : ∀ t, t < 117 → t < a.tmps.size := fun t ht => by rw [hs]; exact ht
    refine ⟨?_, ?_, ?_, ?_, ?_, ?_, ?_, ?_, ?_, ?_, ?_, ?_, ?_, ?_, ?_, trivial⟩
    · refine step_op (Op.move (.tmp 3)) (some 94) [] rr22.ns (by kernel_rfl) rfl (by kernel_rfl) (fun o ho hd hw l xs W hF hl hn K hK => ?_)
      have e1 := eval_o (xs := xs) (ns := rr22.ns) h3
      exact value_ (v := .slice (some adx) nx yx) (hw _) hd (w1 := W) (by simp only [execOp, ho, e1]; go_simp) (hK.out _ _ (hF.now (rr22.far (by decide) hF.1) rfl))
    · refine step_op (Op.move (.tmp 9)) (some 95) [] rr22.ns (by kernel_rfl) rfl (by kernel_rfl) (fun o ho hd hw l xs W hF hl hn K hK => ?_)
      have e1 := eval_o (xs := xs) (ns := rr22.ns) h9
      exact value_ (v := .int .i64 (ix : Nat)) (hw _) hd (w1 := W) (by simp only [execOp, ho, e1]; go_simp) (hK.out _ _ (hF.now (rr22.far (by decide) hF.1) rfl))
    · refine step_op (Op.indexAddr 25 (.tmp 94) (.tmp 95)) (some 96) [0, 1] rr22.ns (by kernel_rfl) rfl (by kernel_rfl) (fun o ho hd hw l xs W hF hl hn K hK => ?_)
      have e1 : (putZ a rr22.ns 0 xs).eval (.tmp 94) = .slice (some adx) nx yx := (eval_z 0 (hsz 94 (by decide))).trans (hF.get 0 hn.1)
      have e2 : (putZ a rr22.ns 0 xs).eval (.tmp 95) = .int .i64 (ix : Nat) := (eval_z 1 (hsz 95 (by decide))).trans (hF.get 1 hn.2.1)
      have i0 : (0 : Int) ≤ (ix : Int) := by omega
      have i1 : (ix : Int) < (nx : Int) := by omega
      exact value_ (v := .pointer (some (adx.add ix))) (hw _) hd (w1 := W) (by simp only [execOp, ho, e1, e2]; go_simp) (hK.out _ _ (hF.now (rr22.far (by decide) hF.1) rfl))
    · refine step_op (Op.load 9 (.tmp 96)) (some 97) [2] rr22.ns (by kernel_rfl) rfl (by kernel_rfl) (fun o ho hd hw l xs W hF hl hn K hK => ?_)
      have e1 : (putZ a rr22.ns 0 xs).eval (.tmp 96) = .pointer (some (adx.add ix)) := (eval_z 2 (hsz 96 (by decide))).trans (hF.get 2 hn.1)
      have hc := hCb hF.1.1 h_x
      exact value_ (v := .string x) (hw _) hd (w1 := W) (by simp only [execOp, ho, e1]; go_simp) (hK.out _ _ (hF.now (rr22.far (by decide) hF.1) rfl))
    · refine step_op (Op.move (.tmp 4)) (some 98) [] rr22.ns (by kernel_rfl) rfl (by kernel_rfl) (fun o ho hd hw l xs W hF hl hn K hK => ?_)
      have e1 := eval_o (xs := xs) (ns := rr22.ns) h4
      exact value_ (v := .slice (some ady) ny yy) (hw _) hd (w1 := W) (by simp only [execOp, ho, e1]; go_simp) (hK.out _ _ (hF.now (rr22.far (by decide) hF.1) rfl))
    · refine step_op (Op.move (.tmp 13)) (some 99) [] rr22.ns (by kernel_rfl) rfl (by kernel_rfl) (fun o ho hd hw l xs W hF hl hn K hK => ?_)
      have e1 := eval_o (xs := xs) (ns := rr22.ns) h13
      exact value_ (v := .int .i64 (iy : Nat)) (hw _) hd (w1 := W) (by simp only [execOp, ho, e1]; go_simp) (hK.out _ _ (hF.now (rr22.far (by decide) hF.1) rfl))
    · refine step_op (Op.indexAddr 25 (.tmp 98) (.tmp 99)) (some 100) [4, 5] rr22.ns (by kernel_rfl) rfl (by kernel_rfl) (fun o ho hd hw l xs W hF hl hn K hK => ?_)
      have e1 : (putZ a rr22.ns 0 xs).eval (.tmp 98) = .slice (some ady) ny yy := (eval_z 4 (hsz 98 (by decide))).trans (hF.get 4 hn.1)
      have e2 : (putZ a rr22.ns 0 xs).eval (.tmp 99) = .int .i64 (iy : Nat) := (eval_z 5 (hsz 99 (by decide))).trans (hF.get 5 hn.2.1)
      have i0 : (0 : Int) ≤ (iy : Int) := by omega
      have i1 : (iy : Int) < (ny : Int) := by omega
      exact value_ (v := .pointer (some (ady.add iy))) (hw _) hd (w1 := W) (by simp only [execOp, ho, e1, e2]; go_simp) (hK.out _ _ (hF.now (rr22.far (by decide) hF.1) rfl))
    · refine step_op (Op.load 9 (.tmp 100)) (some 101) [6] rr22.ns (by kernel_rfl) rfl (by kernel_rfl) (fun o ho hd hw l xs W hF hl hn K hK => ?_)
      have e1 : (putZ a rr22.ns 0 xs).eval (.tmp 100) = .pointer (some (ady.add iy)) := (eval_z 6 (hsz 100 (by decide))).trans (hF.get 6 hn.1)
      have hc := hCb hF.1.1 h_y
      exact value_ (v := .string y) (hw _) hd (w1 := W) (by simp only [execOp, ho, e1]; go_simp) (hK.out _ _ (hF.now (rr22.far (by decide) hF.1) rfl))
    · refine step_op (Op.move (.tmp 5)) (some 102) [] rr22.ns (by kernel_rfl) rfl (by kernel_rfl) (fun o ho hd hw l xs W hF hl hn K hK => ?_)
      have e1 := eval_o (xs := xs) (ns := rr22.ns) h5
      exact value_ (v := .slice (some adz) nz yz) (hw _) hd (w1 := W) (by simp only [execOp, ho, e1]; go_simp) (hK.out _ _ (hF.now (rr22.far (by decide) hF.1) rfl))
    · refine step_op (Op.move (.tmp 15)) (some 103) [] rr22.ns (by kernel_rfl) rfl (by kernel_rfl) (fun o ho hd hw l xs W hF hl hn K hK => ?_)
      have e1 := eval_o (xs := xs) (ns := rr22.ns) h15
      exact value_ (v := .int .i64 (iz : Nat)) (hw _) hd (w1 := W) (by simp only [execOp, ho, e1]; go_simp) (hK.out _ _ (hF.now (rr22.far (by decide) hF.1) rfl))
    · refine step_op (Op.indexAddr 25 (.tmp 102) (.tmp 103)) (some 104) [8, 9] rr22.ns (by kernel_rfl) rfl (by kernel_rfl) (fun o ho hd hw l xs W hF hl hn K hK => ?_)
      have e1 : (putZ a rr22.ns 0 xs).eval (.tmp 102) = .slice (some adz) nz yz := (eval_z 8 (hsz 102 (by decide))).trans (hF.get 8 hn.1)
      have e2 : (putZ a rr22.ns 0 xs).eval (.tmp 103) = .int .i64 (iz : Nat) := (eval_z 9 (hsz 103 (by decide))).trans (hF.get 9 hn.2.1)
      have i0 : (0 : Int) ≤ (iz : Int) := by omega
      have i1 : (iz : Int) < (nz : Int) := by omega
      exact value_ (v := .pointer (some (adz.add iz))) (hw _) hd (w1 := W) (by simp only [execOp, ho, e1, e2]; go_simp) (hK.out _ _ (hF.now (rr22.far (by decide) hF.1) rfl))
    · refine step_op (Op.load 9 (.tmp 104)) (some 105) [10] rr22.ns (by kernel_rfl) rfl (by kernel_rfl) (fun o ho hd hw l xs W hF hl hn K hK => ?_)
      have e1 : (putZ a rr22.ns 0 xs).eval (.tmp 104) = .pointer (some (adz.add iz)) := (eval_z 10 (hsz 104 (by decide))).trans (hF.get 10 hn.1)
      have hc := hCb hF.1.1 h_z
      exact value_ (v := .string z) (hw _) hd (w1 := W) (by simp only [execOp, ho, e1]; go_simp) (hK.out _ _ (hF.now (rr22.far (by decide) hF.1) rfl))
    · refine step_op (Op.build 36 #[(0, .tmp 97), (1, .tmp 101), (2, .tmp 105)]) (some 106) [3, 7, 11] rr22.ns (by kernel_rfl) rfl (by kernel_rfl) (fun o ho hd hw l xs W hF hl hn K hK => ?_)
      have e1 : (putZ a rr22.ns 0 xs).eval (.tmp 97) = .string x := (eval_z 3 (hsz 97 (by decide))).trans (hF.get 3 hn.1)
      have e2 : (putZ a rr22.ns 0 xs).eval (.tmp 101) = .string y := (eval_z 7 (hsz 101 (by decide))).trans (hF.get 7 hn.2.1)
      have e3 : (putZ a rr22.ns 0 xs).eval (.tmp 105) = .string z := (eval_z 11 (hsz 105 (by decide))).trans (hF.get 11 hn.2.2.1)
      exact value_ (v := .agg #[.string x, .string y, .string z]) (hw _) hd (w1 := W) (by simp only [Act.eval, Array.getD_eq_getD_getElem?] at e1 e2 e3; simp only [execOp, ho]; go_simp) (hK.out _ _ (hF.now (rr22.far (by decide) hF.1) rfl))
    · refine step_op (Op.alloc 36) (some 16) [] rr22.ns (by kernel_rfl) rfl (by kernel_rfl) (fun o ho hd hw l xs W hF hl hn K hK => ?_)
      obtain ⟨h0, h1, h2, h3⟩ := hF.1
      have hns : l 14 = false := by
        cases hq : l 14 with
        | false => rfl
        | true => exact absurd (h3 hq).1 (by rw [hl]; decide)
      have hsz2 := h1 hl
      rw [show (some 16 : Option Tmp) = o.dst from hd.symm] at hK ⊢
      refine box_step (hw _) hd (cs := #[.string ⟨#[]⟩, .string ⟨#[]⟩, .string ⟨#[]⟩]) (t := 36) (by simp only [execOp, ho]; go_simp) (fun g hg W' hbox hb => hK.out _ _ (hF.up ⟨h0.trans (hb.mono h0.size), fun h => ?_, fun _ => ⟨?_, fun _ => ?_⟩, fun h => ?_⟩ (fun j v hj hlj hv => ?_) trivial))
      · rw [upd_same] at h; cases h
      · rw [upd_same, hg, hsz2]
      · rw [← hsz2, ← hg]; exact hbox
      · rw [upd_other _ _ (by decide), hns] at h; cases h
      match j, hj with
      | 0, _ => exact hv
      | 1, _ => exact hv
      | 2, _ => exact hv
      | 3, _ => exact hv
      | 4, _ => exact hv
      | 5, _ => exact hv
      | 6, _ => exact hv
      | 7, _ => exact hv
      | 8, _ => exact hv
      | 9, _ => exact hv
      | 10, _ => exact hv
      | 11, _ => exact hv
      | 12, _ => exact hv
      | 13, _ => exact hv
      | 14, _ => exact hv
    · refine step_op (Op.store 36 (.tmp 16) (.tmp 106)) (none) [13, 12, 0, 1, 2, 3, 4, 5, 6, 7, 8, 9, 10, 11, 12, 13] rr22.ns (by kernel_rfl) rfl (by kernel_rfl) (fun o ho hd hw l xs W hF hl hn K hK => ?_)
      have e2 : (putZ a rr22.ns 0 xs).eval (.tmp 106) = .agg #[.string x, .string y, .string z] := (eval_z 12 (hsz 106 (by decide))).trans (hF.get 12 hn.2.1)
      have e1 : (putZ a rr22.ns 0 xs).eval (.tmp 16) = xs 13 := eval_z 13 (hsz 16 (by decide))
      have e1V := hF.get 13 hn.1
      obtain ⟨h0, h1, h2, h3⟩ := hF.1
      obtain ⟨h4, h5⟩ := h2 hn.1
      rw [h4] at e1
      have hK2 : ∀ w2, PX (rr22.I w x y z) (rr22.V x y z adx ady adz nx ny nz yx yy yz ix iy iz) 15 (upd l 14 true) (upd xs 14 undef) w2 → K (putZ a rr22.ns 0 xs) w2 := fun w2 h => by
        have h2 := hK.out undef w2 h
        rw [put_none] at h2
        exact h2
      clear hK
      rw [show (none : Option Tmp) = o.dst from hd.symm]
      refine bstore_step (hw _) ho hd w.heap.size _ #[.string x, .string y, .string z] _ e1 e2 rfl (h5 hl) (by kernel_rfl) (by simp) (by intro q hq; simp only [List.mem_cons, List.not_mem_nil, or_false] at hq; rcases hq with rfl | rfl | rfl <;> rfl) (fun w1 hw1 hoth hsw hbel => hK2 w1 (hF.up ⟨h0.trans (hbel _ (Nat.le_refl _)), fun h => ?_, fun h => ⟨?_, fun h => ?_⟩, fun h => ⟨?_, hw1⟩⟩ (fun j v hj hlj hv => ?_) trivial))
      · rw [upd_other _ _ (by decide), hn.1] at h; cases h
      · rw [upd_other _ _ (by decide)]; exact h4
      · rw [upd_same] at h; cases h
      · rw [upd_other _ _ (by decide)]; exact hn.1
      match j, hj with
      | 0, _ => exact hv
      | 1, _ => exact hv
      | 2, _ => exact hv
      | 3, _ => exact hv
      | 4, _ => exact hv
      | 5, _ => exact hv
      | 6, _ => exact hv
      | 7, _ => exact hv
      | 8, _ => exact hv
      | 9, _ => exact hv
      | 10, _ => exact hv
      | 11, _ => exact hv
      | 12, _ => exact hv
      | 13, _ => exact hv
      | 14, _ => exact hv
def rr8.J (vl : Value) (l : Nat → Bool) (xs : Nat → Value) : Prop := l 0 = true ∨ (l 12 = false ∧ xs 12 = vl)
theorem rr8.J.up {vl : Value} {l : Nat → Bool} {xs : Nat → Value} {i : Nat} {v : Value} (h : rr8.J vl l xs) (hi : i ≠ 12) : rr8.J vl (upd l i true) (upd xs i v) := by
  unfold rr8.J
  rw [upd_other l true hi.symm, upd_other xs v hi.symm]
  by_cases e : i = 0
  · exact .inl (by rw [e, upd_same])
  · rw [upd_other l true (fun e2 => e e2.symm)]
    exact h
def rr8.I (w0 : World) (b1 : Nat) (cb : Array Value) (v3 v4 v5 : Value) (wl ol al : List ByteArray) (pp : List Pair) (x : ByteArray) (vl : Value) (Ls : List (List ByteArray)) (l : Nat → Bool) (xs : Nat → Value) (W : World) : Prop :=
  rr8.J vl l xs ∧ RrS w0 b1 cb v3 v4 v5 wl ol al W ∧ (l 10 = false → Kd.R (Kd.slice 9 Kd.string) 25 W w0.heap.size (fun _ => True) vl Ls) ∧ (l 9 = true → l 10 = false → ∃ A c L, xs 9 = .slice A L.length c ∧ (L.length ≤ 4194304 ∧ ∀ y, y ∈ L ↔ y ∈ upL pp x) ∧ Kd.R Kd.string 9 W w0.heap.size (fun _ => True) (.slice A L.length c) L) ∧
  (l 10 = true → l 11 = false → ∃ W0 A c L, W = W0.alloc (.cells #[.slice A L.length c] 25) ∧ xs 10 = .slice (some ⟨W0.heap.size, 0, none⟩) 1 1 ∧ RrS w0 b1 cb v3 v4 v5 wl ol al W0 ∧ Kd.R (Kd.slice 9 Kd.string) 25 W0 w0.heap.size (fun _ => True) vl Ls ∧ (L.length ≤ 4194304 ∧ ∀ y, y ∈ L ↔ y ∈ upL pp x) ∧ Kd.R Kd.string 9 W0 w0.heap.size (fun _ => True) (.slice A L.length c) L) ∧
  (l 11 = true → ∃ L, (L.length ≤ 4194304 ∧ ∀ y, y ∈ L ↔ y ∈ upL pp x) ∧ Kd.R (Kd.slice 9 Kd.string) 25 W w0.heap.size (fun _ => True) (xs 11) (Ls ++ [L])) ∧ (l 10 = true → l 9 = true) ∧ (l 11 = true → l 10 = true) ∧ (l 12 = true → l 11 = true ∧ xs 12 = xs 11)
theorem rr8.far {w0 : World} {b1 : Nat} {cb : Array Value} {v3 v4 v5 : Value} {wl ol al : List ByteArray} {pp : List Pair} {x : ByteArray} {vl : Value} {Ls : List (List ByteArray)} {l : Nat → Bool} {xs : Nat → Value} {W : World} {i : Nat} {v : Value} (hi : i < 9) (h : rr8.I w0 b1 cb v3 v4 v5 wl ol al pp x vl Ls l xs W) : rr8.I w0 b1 cb v3 v4 v5 wl ol al pp x vl Ls (upd l i true) (upd xs i v) W := by
  unfold rr8.I
  rw [upd_other l true (show 9 ≠ i by omega), upd_other l true (show 10 ≠ i by omega), upd_other l true (show 11 ≠ i by omega), upd_other l true (show 12 ≠ i by omega), upd_other xs v (show 9 ≠ i by omega), upd_other xs v (show 10 ≠ i by omega), upd_other xs v (show 11 ≠ i by omega), upd_other xs v (show 12 ≠ i by omega)]
  exact ⟨h.1.up (by omega), h.2⟩
theorem rr8.same {w0 : World} {b1 : Nat} {cb : Array Value} {v3 v4 v5 : Value} {wl ol al : List ByteArray} {pp : List Pair} {x : ByteArray} {vl : Value} {Ls : List (List ByteArray)} {l l' : Nat → Bool} {xs : Nat → Value} {W : World} (hl : ∀ j, j < 13 → l j = l' j) (h : rr8.I w0 b1 cb v3 v4 v5 wl ol al pp x vl Ls l xs W) : rr8.I w0 b1 cb v3 v4 v5 wl ol al pp x vl Ls l' xs W := by
  unfold rr8.I
  unfold rr8.J
  rw [← hl 0 (by decide), ← hl 9 (by decide), ← hl 10 (by decide), ← hl 11 (by decide), ← hl 12 (by decide)]
  exact h
theorem off_of {l : Nat → Bool} {i j : Nat} (h : l i = true → l j = true) (hj : l j = false) : l i = false := by
  cases hq : l i with
  | false => rfl
  | true => exact absurd (h hq) (by rw [hj]; decide)
abbrev rr8.ns : List (Option Tmp) := [some 33, some 34, some 35, some 36, some 37, some 38, some 39, some 40, some 41, some 42, some 43, some 44, some 6]
def rr8.T : Bool × List (List Nat × List Nat) := (true, [([], []), ([], []), ([1], [1]), ([], []), ([3], [3]), ([], []), ([], []), ([5, 6], [5, 6]), ([7], [7]), ([2, 4, 8], [2, 4, 8]), ([9], [9]), ([0, 10, 9], [0, 10]), ([11, 11, 0, 1, 2, 3, 4, 5, 6, 7, 8, 9, 10, 11], [0, 11])])
theorem rr8.tab : rtab .any (opsOf Try.f27 8) = rr8.T := by kernel_rfl
def rr8.V (p : Pol) (b1 : Nat) (A7 : Option Addr) (c7 : Nat) (A8 : Option Addr) (c8 : Nat) (x : ByteArray) (ad : Addr) (n y k : Nat) (vl : Value) : Nat → Value → World → Prop
  | 0 => fun v _ => v = vl
  | 1 => fun v _ => v = .pointer (some ⟨b1, 7, none⟩)
  | 2 => fun v _ => v = .slice A7 p.f7.length c7
  | 3 => fun v _ => v = .pointer (some ⟨b1, 8, none⟩)
  | 4 => fun v _ => v = .slice A8 p.f8.length c8
  | 5 => fun v _ => v = .slice (some ad) n y
  | 6 => fun v _ => v = .int .i64 (k : Nat)
  | 7 => fun v _ => v = .pointer (some (ad.add k))
  | 8 => fun v _ => v = .string x
  | 9 => fun _ _ => True
  | 10 => fun _ _ => True
  | 11 => fun _ _ => True
  | 12 => fun _ _ => True
  | _ => fun _ _ => False
set_option maxRecDepth 100000 in
set_option maxHeartbeats 2000000 in
theorem rr8 {Q : Exit → Act → World → Prop} {id : Nat} {a : Act} {w : World} {p : Pol} {b1 : Nat} {A0 : Option Addr} {c0 : Nat} {A1 : Option Addr} {c1 : Nat} {A2 : Option Addr} {c2 : Nat} {A3 : Option Addr} {c3 : Nat} {A4 : Option Addr} {c4 : Nat} {A5 : Option Addr} {c5 : Nat} {A6 : Option Addr} {c6 : Nat} {A7 : Option Addr} {c7 : Nat} {A8 : Option Addr} {c8 : Nat} {A9 : Option Addr} {c9 : Nat} {A10 : Option Addr} {c10 : Nat}{w0 : World} {v3 v5 : Value} {wl ol al : List ByteArray}  {x : ByteArray} {ad : Addr} {n y k : Nat} {vl : Value} {Ls : List (List ByteArray)} (hm : Try.prog.follows .mixedOrders = true) (hs : a.tmps.size = 117) (h1 : a.eval (.tmp 1) = .pointer (some ⟨b1, 0, none⟩)) (h6 : a.eval (.tmp 6) = vl) (h4 : a.eval (.tmp 4) = .slice (some ad) n y) (h7 : a.eval (.tmp 7) = .int .i64 (k : Nat)) (hS : RrS w0 b1 #[.slice A0 p.f0.length c0, .slice A1 p.f1.length c1, .slice A2 p.f2.length c2, .slice A3 p.f3.length c3, .slice A4 p.f4.length c4, .slice A5 p.f5.length c5, .slice A6 p.f6.length c6, .slice A7 p.f7.length c7, .slice A8 p.f8.length c8, .slice A9 p.f9.length c9, .slice A10 p.f10.length c10] v3 (.slice (some ad) n y) v5 wl ol al w) (h_x : ∀ W, RrS w0 b1 #[.slice A0 p.f0.length c0, .slice A1 p.f1.length c1, .slice A2 p.f2.length c2, .slice A3 p.f3.length c3, .slice A4 p.f4.length c4, .slice A5 p.f5.length c5, .slice A6 p.f6.length c6, .slice A7 p.f7.length c7, .slice A8 p.f8.length c8, .slice A9 p.f9.length c9, .slice A10 p.f10.length c10] v3 (.slice (some ad) n y) v5 wl ol al W → W.cell? (ad.add k) = some (.string x)) (hk : k < n) (hRL : Kd.R (Kd.slice 9 Kd.string) 25 w w0.heap.size (fun _ => True) vl Ls) (hLs : Ls.length ≤ 1048576) (q7 : Kd.C k86 w0 A7 p.f7.length p.f7) (l7 : p.f7.length ≤ c7) (s7 : p.f7.length ≤ 1048576) (q8 : Kd.C k86 w0 A8 p.f8.length p.f8) (l8 : p.f8.length ≤ c8) (s8 : p.f8.length ≤ 1048576)
    (hdone : ∀ (xs : Nat → Value) (W : World) (L : List ByteArray), RrS w0 b1 #[.slice A0 p.f0.length c0, .slice A1 p.f1.length c1, .slice A2 p.f2.length c2, .slice A3 p.f3.length c3, .slice A4 p.f4.length c4, .slice A5 p.f5.length c5, .slice A6 p.f6.length c6, .slice A7 p.f7.length c7, .slice A8 p.f8.length c8, .slice A9 p.f9.length c9, .slice A10 p.f10.length c10] v3 (.slice (some ad) n y) v5 wl ol al W → (L.length ≤ 4194304 ∧ ∀ y, y ∈ L ↔ y ∈ upL (p.f7 ++ p.f8) x) → Kd.R (Kd.slice 9 Kd.string) 25 W w0.heap.size (fun _ => True) (xs 11) (Ls ++ [L]) → xs 12 = xs 11 → Q .normal (putZ a rr8.ns 0 xs) W) :
    (Code.region id (opsOf Try.f27 8) true).wp Try.prog Q a w := by
  refine region_predx (T := rr8.T) 13 (fun l xs W => rr8.I w0 b1 #[.slice A0 p.f0.length c0, .slice A1 p.f1.length c1, .slice A2 p.f2.length c2, .slice A3 p.f3.length c3, .slice A4 p.f4.length c4, .slice A5 p.f5.length c5, .slice A6 p.f6.length c6, .slice A7 p.f7.length c7, .slice A8 p.f8.length c8, .slice A9 p.f9.length c9, .slice A10 p.f10.length c10] v3 (.slice (some ad) n y) v5 wl ol al (p.f7 ++ p.f8) x vl Ls l xs W) (rr8.V p b1 A7 c7 A8 c8 x ad n y k vl) hm (by kernel_rfl) rr8.tab (by kernel_rfl) (by kernel_rfl) ?h0 ?hI ?hsteps ?hd
  case h0 => exact fun xs hx => ⟨.inr ⟨rfl, (eval_z 12 (by rw [hs]; decide)).symm.trans ((congrArg (fun b => b.eval (.tmp 6)) hx).trans h6)⟩, hS.below (below_drew (Below.refl _ _)), fun _ => Kd.R_below hRL (below_drew (Below.refl _ _)), fun h => absurd h Bool.false_ne_true, fun h => absurd h Bool.false_ne_true, fun h => absurd h Bool.false_ne_true, fun h => absurd h Bool.false_ne_true, fun h => absurd h Bool.false_ne_true, fun h => absurd h Bool.false_ne_true⟩
  case hI => exact fun hl h => rr8.same hl h
  case hd =>
    intro xs W hI hV
    obtain ⟨j0, i0, i1, i2, i3, i4, i5, i6, i7⟩ := hI
    obtain ⟨L, hL, hR⟩ := i4 rfl
    exact hdone xs W L i0 hL hR (i7 rfl).2
  case hsteps =>
    have hsz : ∀ t, t < 117 → t < a.tmps.size := fun t ht => by rw [hs]; exact ht
    refine ⟨?_, ?_, ?_, ?_, ?_, ?_, ?_, ?_, ?_, ?_, ?_, ?_, ?_, trivial⟩
    · refine step_op (Op.move (.tmp 6)) (some 33) [] rr8.ns (by kernel_rfl) rfl (by kernel_rfl) (fun o ho hd hw l xs W hF hl hn K hK => ?_)
      have e1 : (putZ a rr8.ns 0 xs).eval (.tmp 6) = vl := (eval_z 12 (hsz 6 (by decide))).trans (hF.1.1.resolve_left (by rw [hl]; decide)).2
      exact value_ (v := vl) (hw _) hd (w1 := W) (by simp only [execOp, ho, e1]; go_simp) (hK.out _ _ (hF.now (rr8.far (by decide) hF.1) rfl))
    · refine step_op (Op.fieldAddr 34 (.tmp 1) 7) (some 34) [] rr8.ns (by kernel_rfl) rfl (by kernel_rfl) (fun o ho hd hw l xs W hF hl hn K hK => ?_)
      have e1 := eval_o (xs := xs) (ns := rr8.ns) h1
      exact value_ (v := .pointer (some ⟨b1, 7, none⟩)) (hw _) hd (w1 := W) (by simp only [execOp, ho, e1]; go_simp) (hK.out _ _ (hF.now (rr8.far (by decide) hF.1) rfl))
    · refine step_op (Op.load 30 (.tmp 34)) (some 35) [1] rr8.ns (by kernel_rfl) rfl (by kernel_rfl) (fun o ho hd hw l xs W hF hl hn K hK => ?_)
      have e1 : (putZ a rr8.ns 0 xs).eval (.tmp 34) = .pointer (some ⟨b1, 7, none⟩) := (eval_z 1 (hsz 34 (by decide))).trans (hF.get 1 hn.1)
      have hc := (blk_cell hF.1.2.1.h1 7).trans (show _ = some (Value.slice A7 p.f7.length c7) from rfl)
      exact value_ (v := .slice A7 p.f7.length c7) (hw _) hd (w1 := W) (by simp only [execOp, ho, e1]; go_simp) (hK.out _ _ (hF.now (rr8.far (by decide) hF.1) rfl))
    · refine step_op (Op.fieldAddr 34 (.tmp 1) 8) (some 36) [] rr8.ns (by kernel_rfl) rfl (by kernel_rfl) (fun o ho hd hw l xs W hF hl hn K hK => ?_)
      have e1 := eval_o (xs := xs) (ns := rr8.ns) h1
      exact value_ (v := .pointer (some ⟨b1, 8, none⟩)) (hw _) hd (w1 := W) (by simp only [execOp, ho, e1]; go_simp) (hK.out _ _ (hF.now (rr8.far (by decide) hF.1) rfl))
    · refine step_op (Op.load 30 (.tmp 36)) (some 37) [3] rr8.ns (by kernel_rfl) rfl (by kernel_rfl) (fun o ho hd hw l xs W hF hl hn K hK => ?_)
      have e1 : (putZ a rr8.ns 0 xs).eval (.tmp 36) = .pointer (some ⟨b1, 8, none⟩) := (eval_z 3 (hsz 36 (by decide))).trans (hF.get 3 hn.1)
      have hc := (blk_cell hF.1.2.1.h1 8).trans (show _ = some (Value.slice A8 p.f8.length c8) from rfl)
      exact value_ (v := .slice A8 p.f8.length c8) (hw _) hd (w1 := W) (by simp only [execOp, ho, e1]; go_simp) (hK.out _ _ (hF.now (rr8.far (by decide) hF.1) rfl))
    · refine step_op (Op.move (.tmp 4)) (some 38) [] rr8.ns (by kernel_rfl) rfl (by kernel_rfl) (fun o ho hd hw l xs W hF hl hn K hK => ?_)
      have e1 := eval_o (xs := xs) (ns := rr8.ns) h4
      exact value_ (v := .slice (some ad) n y) (hw _) hd (w1 := W) (by simp only [execOp, ho, e1]; go_simp) (hK.out _ _ (hF.now (rr8.far (by decide) hF.1) rfl))
    · refine step_op (Op.move (.tmp 7)) (some 39) [] rr8.ns (by kernel_rfl) rfl (by kernel_rfl) (fun o ho hd hw l xs W hF hl hn K hK => ?_)
      have e1 := eval_o (xs := xs) (ns := rr8.ns) h7
      exact value_ (v := .int .i64 (k : Nat)) (hw _) hd (w1 := W) (by simp only [execOp, ho, e1]; go_simp) (hK.out _ _ (hF.now (rr8.far (by decide) hF.1) rfl))
    · refine step_op (Op.indexAddr 25 (.tmp 38) (.tmp 39)) (some 40) [5, 6] rr8.ns (by kernel_rfl) rfl (by kernel_rfl) (fun o ho hd hw l xs W hF hl hn K hK => ?_)
      have e1 : (putZ a rr8.ns 0 xs).eval (.tmp 38) = .slice (some ad) n y := (eval_z 5 (hsz 38 (by decide))).trans (hF.get 5 hn.1)
      have e2 : (putZ a rr8.ns 0 xs).eval (.tmp 39) = .int .i64 (k : Nat) := (eval_z 6 (hsz 39 (by decide))).trans (hF.get 6 hn.2.1)
      have i0 : (0 : Int) ≤ (k : Int) := by omega
      have i1 : (k : Int) < (n : Int) := by omega
      exact value_ (v := .pointer (some (ad.add k))) (hw _) hd (w1 := W) (by simp only [execOp, ho, e1, e2]; go_simp) (hK.out _ _ (hF.now (rr8.far (by decide) hF.1) rfl))
    · refine step_op (Op.load 9 (.tmp 40)) (some 41) [7] rr8.ns (by kernel_rfl) rfl (by kernel_rfl) (fun o ho hd hw l xs W hF hl hn K hK => ?_)
      have e1 : (putZ a rr8.ns 0 xs).eval (.tmp 40) = .pointer (some (ad.add k)) := (eval_z 7 (hsz 40 (by decide))).trans (hF.get 7 hn.1)
      have hc := h_x W hF.1.2.1
      exact value_ (v := .string x) (hw _) hd (w1 := W) (by simp only [execOp, ho, e1]; go_simp) (hK.out _ _ (hF.now (rr8.far (by decide) hF.1) rfl))
    · refine step_op (Op.call { callee := .value (.func 53), args := #[.tmp 35, .tmp 37, .tmp 41], argTypes := #[30, 30, 9] }) (some 42) [2, 4, 8] rr8.ns (by kernel_rfl) rfl (by kernel_rfl) (fun o ho hd hw l xs W hF hl hn K hK => ?_)
      have e1 : (putZ a rr8.ns 0 xs).eval (.tmp 35) = .slice A7 p.f7.length c7 := (eval_z 2 (hsz 35 (by decide))).trans (hF.get 2 hn.1)
      have e2 : (putZ a rr8.ns 0 xs).eval (.tmp 37) = .slice A8 p.f8.length c8 := (eval_z 4 (hsz 37 (by decide))).trans (hF.get 4 hn.2.1)
      have e3 : (putZ a rr8.ns 0 xs).eval (.tmp 41) = .string x := (eval_z 8 (hsz 41 (by decide))).trans (hF.get 8 hn.2.2.1)
      refine goes_ Try.func53 (by kernel_rfl) rfl #[.slice A7 p.f7.length c7, .slice A8 p.f8.length c8, .string x] (hw _) hd ho (by simp only [List.map_toArray, List.map_cons, List.map_nil, e1, e2, e3]) ?_
      obtain ⟨j0, i0, i1, i2, i3, i4, i5, i6, i7⟩ := hF.1
      have f10 := off_of i5 hl
      have f11 := off_of i6 f10
      have f12 := off_of (fun h => (i7 h).1) f11
      refine (rups_k p.f7 p.f8 A7 A8 c7 c8 x W (Kd.C_below q7 i0.bel) l7 (Kd.C_below q8 i0.bel) l8 s7 s8).mono ?_
      rintro e W' ⟨v, L, rfl, hL, hR, hb⟩
      obtain ⟨A, c, rfl⟩ := Kd.R_slice hR
      refine ⟨_, rfl, hK.out _ _ (hF.up ⟨j0.up (by decide), i0.below hb, fun _ => Kd.R_below (i1 f10) hb, fun _ _ => ⟨A, c, L, upd_same _ _ _, hL, Kd.R_lower hR i0.bel.size⟩, fun h => ?_, fun h => ?_, fun _ => upd_same _ _ _, fun h => ?_, fun h => ?_⟩ (fun j v hj hlj hv => ?_) trivial)⟩
      · rw [upd_other _ _ (by decide), f10] at h; cases h
      · rw [upd_other _ _ (by decide), f11] at h; cases h
      · rw [upd_other _ _ (by decide), f11] at h; cases h
      · rw [upd_other _ _ (by decide), f12] at h; cases h
      match j, hj with
      | 0, _ => exact hv
      | 1, _ => exact hv
      | 2, _ => exact hv
      | 3, _ => exact hv
      | 4, _ => exact hv
      | 5, _ => exact hv
      | 6, _ => exact hv
      | 7, _ => exact hv
      | 8, _ => exact hv
      | 9, _ => exact hv
      | 10, _ => exact hv
      | 11, _ => exact hv
      | 12, _ => exact hv
    · refine step_op (Op.buildSlice 37 1 #[(0, .tmp 42)]) (some 43) [9] rr8.ns (by kernel_rfl) rfl (by kernel_rfl) (fun o ho hd hw l xs W hF hl hn K hK => ?_)
      have e1 : (putZ a rr8.ns 0 xs).eval (.tmp 42) = xs 9 := eval_z 9 (hsz 42 (by decide))
      have e1V := hF.get 9 hn.1
      obtain ⟨j0, i0, i1, i2, i3, i4, i5, i6, i7⟩ := hF.1
      have f11 := off_of i6 hl
      have f12 := off_of (fun h => (i7 h).1) f11
      obtain ⟨A, c, L, hx9, hL, hR⟩ := i2 hn.1 hl
      rw [hx9] at e1
      have hba : Below W.heap.size W (W.alloc (.cells #[.slice A L.length c] 25)) := below_alloc (Below.refl _ _) _
      refine value_ (v := .slice (some ⟨W.heap.size, 0, none⟩) 1 1) (hw _) hd (w1 := W.alloc (.cells #[.slice A L.length c] 25)) (by simp only [Act.eval, Array.getD_eq_getD_getElem?] at e1; simp only [execOp, ho]; go_simp) (hK.out _ _ (hF.up ⟨j0.up (by decide), i0.below hba, fun h => ?_, fun _ h => ?_, fun _ _ => ⟨W, A, c, L, rfl, upd_same _ _ _, i0, i1 hl, hL, hR⟩, fun h => ?_, fun _ => ?_, fun _ => upd_same _ _ _, fun h => ?_⟩ (fun j v hj hlj hv => ?_) trivial))
      · rw [upd_same] at h; cases h
      · rw [upd_same] at h; cases h
      · rw [upd_other _ _ (by decide), f11] at h; cases h
      · rw [upd_other _ _ (by decide)]; exact hn.1
      · rw [upd_other _ _ (by decide), f12] at h; cases h
      match j, hj with
      | 0, _ => exact hv
      | 1, _ => exact hv
      | 2, _ => exact hv
      | 3, _ => exact hv
      | 4, _ => exact hv
      | 5, _ => exact hv
      | 6, _ => exact hv
      | 7, _ => exact hv
      | 8, _ => exact hv
      | 9, _ => exact hv
      | 10, _ => exact hv
      | 11, _ => exact hv
      | 12, _ => exact hv
    · refine step_op (Op.call { callee := .builtin .append, args := #[.tmp 33, .tmp 43], argTypes := #[37, 37] }) (some 44) [0, 10, 9] rr8.ns (by kernel_rfl) rfl (by kernel_rfl) (fun o ho hd hw l xs W hF hl hn K hK => ?_)
      have e1 : (putZ a rr8.ns 0 xs).eval (.tmp 33) = vl := (eval_z 0 (hsz 33 (by decide))).trans (hF.get 0 hn.1)
      have e2 : (putZ a rr8.ns 0 xs).eval (.tmp 43) = xs 10 := eval_z 10 (hsz 43 (by decide))
      have e2V := hF.get 10 hn.2.1
      obtain ⟨j0, i0, i1, i2, i3, i4, i5, i6, i7⟩ := hF.1
      have f12 := off_of (fun h => (i7 h).1) hl
      obtain ⟨W0, A, c, L, rfl, hx10, hS0, hR0, hL, hRL⟩ := i3 hn.2.1 hl
      rw [show (some 44 : Option Tmp) = o.dst from hd.symm] at hK ⊢
      refine Kd.R_append_step (Kd.slice 9 Kd.string) (w0 := w0) (W := W0) w0.heap.size (hw _) (.tmp 33) (.tmp 43) 37 25 (.slice none 0 0) 24 ho Try.underlying37 info25r rfl (by decide) (by omega) vl Ls L [.slice A L.length c] (fun _ => True) (fun k_ => ∃ cs, W0.heap[k_]? = some (Obj.cells cs 9 (0, 0))) e1 (e2.trans hx10) ⟨_, rfl, R_in hRL⟩ (fun k_ hk_ => ⟨trivial, ne_typed hk_ (R_typed hR0) (by decide)⟩) (fun _ _ => trivial) hR0 hS0.bel hS0.bel.size (by omega) (fun v1 w1 ho1 hb hg hat => hK.out _ _ (hF.up ⟨j0.up (by decide), hS0.grown 25 hg (R_typed hR0) hb (by decide), fun h => ?_, fun _ h => ?_, fun _ h => ?_, fun _ => ⟨L, hL, ?_⟩, fun _ => ?_, fun _ => ?_, fun h => ?_⟩ (fun j v hj hlj hv => ?_) trivial))
      · rw [upd_other _ _ (by decide), hn.2.1] at h; cases h
      · rw [upd_other _ _ (by decide), hn.2.1] at h; cases h
      · rw [upd_same] at h; cases h
      · rw [upd_same]; exact ho1
      · rw [upd_other _ _ (by decide)]; exact i5 hn.2.1
      · rw [upd_other _ _ (by decide)]; exact hn.2.1
      · rw [upd_other _ _ (by decide), f12] at h; cases h
      match j, hj with
      | 0, _ => exact hv
      | 1, _ => exact hv
      | 2, _ => exact hv
      | 3, _ => exact hv
      | 4, _ => exact hv
      | 5, _ => exact hv
      | 6, _ => exact hv
      | 7, _ => exact hv
      | 8, _ => exact hv
      | 9, _ => exact hv
      | 10, _ => exact hv
      | 11, _ => exact hv
      | 12, _ => exact hv
    · refine step_op (Op.assign (.tmp 44)) (some 6) [11, 11, 0, 1, 2, 3, 4, 5, 6, 7, 8, 9, 10, 11] rr8.ns (by kernel_rfl) rfl (by kernel_rfl) (fun o ho hd hw l xs W hF hl hn K hK => ?_)
      have e1 : (putZ a rr8.ns 0 xs).eval (.tmp 44) = xs 11 := eval_z 11 (hsz 44 (by decide))
      have e1V := hF.get 11 hn.1
      obtain ⟨j0, i0, i1, i2, i3, i4, i5, i6, i7⟩ := hF.1
      refine value_ (v := xs 11) (hw _) hd (w1 := W) (by simp only [execOp, ho, e1]; go_simp) (hK.out _ _ (hF.now ?_ trivial))
      unfold rr8.I
      rw [upd_other l true (show 9 ≠ 12 by decide), upd_other l true (show 10 ≠ 12 by decide), upd_other l true (show 11 ≠ 12 by decide), upd_other xs _ (show 9 ≠ 12 by decide), upd_other xs _ (show 10 ≠ 12 by decide), upd_other xs _ (show 11 ≠ 12 by decide)]
      exact ⟨.inl (by rw [upd_other _ _ (by decide)]; exact hn.2.2.1), i0, i1, i2, i3, i4, i5, i6, fun _ => ⟨hn.1, upd_same _ _ _⟩⟩
end Go.Proofs.Ytnkdcekddhmjnaa.M
