import Derived.Test.YtcoodlncjnekoaaCp
import Derived.Test.YtcoodlncjnekoaaOw
import Derived.Shelf.RegionOpenPlain
/- A journal's functions: Open, Append, Sync. Conditions: each theorem's own.
A journal's Open and Last. Conditions: each theorem's own.
A journal's Last. Conditions: none. -/
namespace Go.Proofs.Ytcoodlncjnekoaa.F
open Go.RowKit Go.Proofs.YtcoodlncjnekoaaW.PrintWords Go.Proofs.JournalPlain Go.Proofs.Ytcoodlncjnekoaa.D
set_option linter.unusedVariables false
theorem _root_.Go.Proofs.Ytcoodlncjnekoaa.D.Dk.set {w : World} {B g k : Nat} {v : Value} {room safe : Int} {T : ByteArray} {cs : Array Value} {t : TypeId} {fr : Nat × Nat} (hd : Dk w B g v room safe T) (hk : w.heap[k]? = some (.cells cs t fr)) (h1 : t ≠ 105) (h2 : t ≠ 5) (i : Nat) (u : Value) : Dk (w.setCell ⟨k, i, none⟩ u) B g v room safe T := by
  refine hd.move fun q hq hf => Below.heap_setCell _ _ _ _ ?_
  rintro rfl
  rcases hf with rfl | he
  · obtain ⟨p, hb, _⟩ := hd.blk
    have hk' : w.heap[q]? = some (.cells cs t fr) := hk
    rw [hk'] at hb
    injection hb with hb
    injection hb with _ hb _
    exact h1 hb
  · exact Lib.ownBlock_neF hd.own hk h2 he
/-- A journal's block. -/
def Jn (w : World) (j g : Nat) (ver : Int) (txt : ByteArray) (any : Bool) : Prop := w.heap[j]? = some (.cells #[.pointer (some ⟨g, 0, none⟩), .int .i64 ver, .string txt, .bool any] 116 (0, 0))
theorem jsync {w : World} {B g j : Nat} {v : Value} {room safe ver : Int} {T txt : ByteArray} {any : Bool} (h : Dk w B g v room safe T) (hj : Jn w j g ver txt any) :
    Calls Try.prog 45 #[.pointer (some ⟨j, 0, none⟩)] w fun e w' => e = .returned (.int .i64 0) ∧ Dk w' B g v room T.size T ∧ D.Left w w' B g v ∧ Jn w' j g ver txt any := by
  have c0 : w.cell? ⟨j, 0, none⟩ = some (.pointer (some ⟨g, 0, none⟩)) := (cells_at hj 0).trans rfl
  have HC := Lib.hid (sync_dk h)
  have HJ := Lib.hid hj
  have HD := Lib.hid h
  clear h hj
  go_enter Try.func45, Try.ntmps45
  go_wp2_with fail
  refine HC.out.mono ?_
  rintro e w' ⟨rfl, h1, h2⟩
  have H1 := Lib.hid h1
  have H2 := Lib.hid h2
  have HJ2 := Lib.hid (show Jn w' j g ver txt any from h2.keep HD.out HJ.out (by decide) (by decide))
  clear h1 h2
  go_wp2_with fail
  go_ret
  exact ⟨rfl, H1.out, H2.out, HJ2.out⟩
theorem not_foot {w : World} {B g k : Nat} {v : Value} {room safe : Int} {T : ByteArray} {cs : Array Value} {t : TypeId} {fr : Nat × Nat} (hd : Dk w B g v room safe T) (hk : w.heap[k]? = some (.cells cs t fr)) (h1 : t ≠ 105) (h2 : t ≠ 5) : ¬ foot g v k := by
  rintro (rfl | he)
  · obtain ⟨p, hb, _⟩ := hd.blk
    have hk' : w.heap[k]? = some (.cells cs t fr) := hk
    rw [hk'] at hb
    injection hb with hb
    injection hb with _ hb _
    exact h1 hb
  · exact Lib.ownBlock_neF hd.own hk h2 he
/-- A row of entries stays while the disk and its journal are written. -/
theorem row_kept {w w' : World} {B B' g j : Nat} {v u : Value} {room safe ver : Int} {T txt : ByteArray} {any : Bool} {es : List S23} (hd : Dk w B g v room safe T) (hj : Jn w j g ver txt any) (hR : Kd.R k23 23 w B' (fun _ => True) u es) (hk : ∀ i, i < w.heap.size → ¬ foot g v i → i ≠ j → w'.heap[i]? = w.heap[i]?) : Kd.R k23 23 w' B' (fun _ => True) u es := by
  refine Kd.R_mono (Kd.R_move (Kd.R_bound hR) (fun i hi => ?_)) (fun _ _ => trivial)
  obtain ⟨_, _, hlt, q, hq, cs, hc⟩ := hi
  have hq2 : q = 23 := by
    have : ∀ q, q ∈ 23 :: k23.E → q = 23 := by decide
    exact this q hq
  subst hq2
  refine hk i hlt (not_foot hd hc (by decide) (by decide)) ?_
  rintro rfl
  have hj' : w.heap[i]? = some (.cells _ 116 (0, 0)) := hj
  rw [hc] at hj'
  injection hj' with hj'
  injection hj' with _ hj' _
  exact absurd hj' (by decide)
end Go.Proofs.Ytcoodlncjnekoaa.F
namespace Go.Proofs.Ytcoodlncjnekoaa.F
open Go.RowKit Go.Proofs.YtcoodlncjnekoaaW.PrintWords Go.Proofs.JournalPlain Go.Proofs.Ytcoodlncjnekoaa.D
set_option linter.unusedVariables false
set_option maxHeartbeats 1000000 in
set_option maxRecDepth 100000 in
theorem jopen {w : World} {B g : Nat} {v : Value} {room safe : Int} {T : ByteArray} (h : Dk w B g v room safe T) (hBw : B ≤ w.heap.size) (es : List S23) (K : Nat) (hR : journal_Read.f K T = some (es, (T.size : Int))) (hn : es.length ≤ 1048576) :
    Calls Try.prog 39 #[.pointer (some ⟨g, 0, none⟩)] w fun e w' => ∃ j u ver txt, e = .returned (.tuple #[.pointer (some ⟨j, 0, none⟩), u, .int .i64 0]) ∧ Dk w' B g v room safe T ∧ Jn w' j g ver txt (decide (0 < es.length)) ∧
      (0 < es.length → ver = (rd_T23 es ((es.length : Int) - 1)).f0 ∧ txt = (rd_T23 es ((es.length : Int) - 1)).f1) ∧ Kd.R k23 23 w' w.heap.size (fun _ => True) u es ∧ D.Left w w' B g v ∧ w.heap.size ≤ j := by
  have hu23 := Try.underlying23
  have HC := Lib.hid (bytes_dk h)
  have CR := Lib.hid (fun W => journal_Read.calls K T es (T.size : Int) W hR)
  have HBW := Lib.hid hBw
  clear h hR hBw
  by_cases c : 0 < es.length
  · have c' : decide (0 < (es.length : Int)) = true := decide_eq_true (by omega)
    have hw1 : wrap64 ((es.length : Int) - 1) = (es.length : Int) - 1 := by unfold wrap64; omega
    have hi0 : (0 : Int) ≤ (es.length : Int) - 1 := by omega
    have hi1 : (es.length : Int) - 1 < (es.length : Int) := by omega
    have hnat : ((es.length : Int) - 1).toNat = es.length - 1 := by omega
    go_enter Try.func39, Try.ntmps39
    go_wp2_with fail
    refine HC.out.mono ?_
    rintro e w1 ⟨rfl, hd, hl⟩
    have HD1 := Lib.hid hd
    have HL1 := Lib.hid hl
    clear hd hl
    go_wp2_with fail
    refine (CR.out _).mono ?_
    rintro e w2 ⟨u, rfl, hr, hb⟩
    obtain ⟨Ag, cg, rfl⟩ := Kd.R_slice hr
    have HR2 := Lib.hid hr
    have HB2 := Lib.hid hb
    clear hr hb
    go_wp2_with ((with_reducible refine gate_dst (N := 24) rfl ?_); refine box_event rfl (N := 24) rfl (cs := #[.pointer (some ⟨g, 0, none⟩), .int .i64 0, .string ⟨#[]⟩, .bool false]) (t := 116) ?hr ?_; (case hr => first | (go_simp; done) | (go_simp; rfl)); intro j hg w3 hb0 hbel; have HJG := Lib.hid (show w2.heap.size ≤ j by rw [hg]; exact Nat.le_refl _); have HB3 := Lib.hid hbel; have BK3 := Lib.hid hb0; have HR3 := Lib.hid (Kd.R_below HR2.out hbel); obtain ⟨ad, e23, r0, r1⟩ := at_T23 (Kd.R_reads' HR3.out).2.2 _ hi0 hi1; cases e23; rw [hnat] at r0 r1; have c0 : w3.cell? ⟨j, 1, none⟩ = some (.int .i64 0) := (cells_at hb0 1).trans rfl; have c1 : w3.cell? ⟨j, 2, none⟩ = some (.string ⟨#[]⟩) := (cells_at hb0 2).trans rfl; have c2 : w3.cell? ⟨j, 3, none⟩ = some (.bool false) := (cells_at hb0 3).trans rfl; have f1 := fz_at hb0 1; have f2 := fz_at hb0 2; have f3 := fz_at hb0 3; clear hg hb0 hbel)
    go_ret3
    have b1 := blk_put (cs' := #[.pointer (some ⟨g, 0, none⟩), .int .i64 (rd_T23 es ((es.length : Int) - 1)).f0, .string ⟨#[]⟩, .bool false]) BK3.out 1 (.int .i64 (rd_T23 es ((es.length : Int) - 1)).f0) rfl
    have b2 := blk_put (cs' := #[.pointer (some ⟨g, 0, none⟩), .int .i64 (rd_T23 es ((es.length : Int) - 1)).f0, .string (rd_T23 es ((es.length : Int) - 1)).f1, .bool false]) b1 2 (.string (rd_T23 es ((es.length : Int) - 1)).f1) rfl
    have b3 := blk_put (cs' := #[.pointer (some ⟨g, 0, none⟩), .int .i64 (rd_T23 es ((es.length : Int) - 1)).f0, .string (rd_T23 es ((es.length : Int) - 1)).f1, .bool true]) b2 3 (.bool true) rfl
    have hB13 := below_step HB2.out HB3.out
    have hj1 : w1.heap.size ≤ j := Nat.le_trans HB2.out.size HJG.out
    have hD3 := HD1.out.below hB13
    have hbl := ((hB13.setCell (p := ⟨j, 1, none⟩) hj1 (.int .i64 (rd_T23 es ((es.length : Int) - 1)).f0)).setCell (p := ⟨j, 2, none⟩) hj1 (.string (rd_T23 es ((es.length : Int) - 1)).f1)).setCell (p := ⟨j, 3, none⟩) hj1 (.bool true)
    have hq : ∀ q, q ∈ 23 :: k23.E → q ≠ 116 := by decide
    have hr3 := Kd.R_set (Kd.R_set (Kd.R_set HR3.out BK3.out hq 1 (.int .i64 (rd_T23 es ((es.length : Int) - 1)).f0)) b1 hq 2 (.string (rd_T23 es ((es.length : Int) - 1)).f1)) b2 hq 3 (.bool true)
    refine ⟨j, _, (rd_T23 es ((es.length : Int) - 1)).f0, (rd_T23 es ((es.length : Int) - 1)).f1, rfl, ((hD3.set BK3.out (by decide) (by decide) 1 _).set b1 (by decide) (by decide) 2 _).set b2 (by decide) (by decide) 3 _, ?_, fun _ => ⟨rfl, rfl⟩, Kd.R_lower hr3 HL1.out.1.size, ?_, Nat.le_trans HL1.out.1.size hj1⟩
    · rw [decide_eq_true c]
      exact b3
    · exact ⟨HL1.out.1.trans (below_weak hbl (Nat.le_trans HBW.out HL1.out.1.size)), fun i hi hf => (hbl.block i (Nat.lt_of_lt_of_le hi HL1.out.1.size)).trans (HL1.out.2 i hi hf)⟩
  · obtain rfl : es = [] := List.eq_nil_of_length_eq_zero (by omega)
    clear c hn
    go_enter Try.func39, Try.ntmps39
    go_wp2_with fail
    refine HC.out.mono ?_
    rintro e w1 ⟨rfl, hd, hl⟩
    have HD1 := Lib.hid hd
    have HL1 := Lib.hid hl
    clear hd hl
    go_wp2_with fail
    refine (CR.out _).mono ?_
    rintro e w2 ⟨u, rfl, hr, hb⟩
    obtain ⟨Ag, cg, rfl⟩ := Kd.R_slice hr
    have HR2 := Lib.hid hr
    have HB2 := Lib.hid hb
    clear hr hb
    go_wp2_with ((with_reducible refine gate_dst (N := 24) rfl ?_); refine box_event rfl (N := 24) rfl (cs := #[.pointer (some ⟨g, 0, none⟩), .int .i64 0, .string ⟨#[]⟩, .bool false]) (t := 116) ?hr ?_; (case hr => first | (go_simp; done) | (go_simp; rfl)); intro j hg w3 hb0 hbel; have HJG := Lib.hid (show w2.heap.size ≤ j by rw [hg]; exact Nat.le_refl _); have HB3 := Lib.hid hbel; have BK3 := Lib.hid hb0; have HR3 := Lib.hid (Kd.R_below HR2.out hbel); clear hg hb0 hbel)
    go_ret3
    have hB13 := below_step HB2.out HB3.out
    have hj1 : w1.heap.size ≤ j := Nat.le_trans HB2.out.size HJG.out
    refine ⟨j, _, 0, ⟨#[]⟩, rfl, HD1.out.below hB13, BK3.out, fun h => absurd h (by decide), Kd.R_lower HR3.out HL1.out.1.size, ?_, Nat.le_trans HL1.out.1.size hj1⟩
    exact ⟨HL1.out.1.trans (below_weak hB13 (Nat.le_trans HBW.out HL1.out.1.size)), fun i hi hf => (hB13.block i (Nat.lt_of_lt_of_le hi HL1.out.1.size)).trans (HL1.out.2 i hi hf)⟩
end Go.Proofs.Ytcoodlncjnekoaa.F
namespace Go.Proofs.Ytcoodlncjnekoaa.F
open Go.RowKit Go.Proofs.YtcoodlncjnekoaaW.PrintWords Go.Proofs.JournalPlain Go.Proofs.Ytcoodlncjnekoaa.D
set_option linter.unusedVariables false
set_option maxHeartbeats 1000000 in
set_option maxRecDepth 100000 in
theorem jlast {w : World} {g j : Nat} {ver : Int} {txt : ByteArray} {any : Bool} (hj : Jn w j g ver txt any) :
    Calls Try.prog 46 #[.pointer (some ⟨j, 0, none⟩)] w fun e w' => e = .returned (.tuple #[.agg #[.int .i64 ver, .string txt], .bool any]) ∧ Below w.heap.size w w' := by
  have hu23 := Try.underlying23
  have HJ := Lib.hid hj
  clear hj
  go_enter Try.func46, Try.ntmps46
  go_wp2_with ((with_reducible refine gate_dst (N := 2) rfl ?_); refine box_event rfl (N := 2) rfl (cs := #[.int .i64 0, .string ⟨#[]⟩]) (t := 23) ?hr ?_; (case hr => first | (go_simp; done) | (go_simp; rfl)); intro g0 hg w1 hb0 hbel; have HB := Lib.hid hbel; have HG := Lib.hid (show w.heap.size ≤ g0 by rw [hg]; exact Nat.le_refl _); have BK0 := Lib.hid hb0; clear hg hb0 hbel)
  have HJ1 := Lib.hid (show Jn w1 j g ver txt any from blk_below HJ.out HB.out)
  have mixed := mixed
  have c1 : w1.drew.cell? ⟨j, 1, none⟩ = some (.int .i64 ver) := (cells_at (w := w1.drew) HJ1.out 1).trans rfl
  have c2 : w1.drew.cell? ⟨j, 2, none⟩ = some (.string txt) := (cells_at (w := w1.drew) HJ1.out 2).trans rfl
  have c3 : w1.drew.cell? ⟨j, 3, none⟩ = some (.bool any) := (cells_at (w := w1.drew) HJ1.out 3).trans rfl
  have d0 : w1.drew.cell? ⟨g0, 0, none⟩ = some (.int .i64 0) := (cells_at (w := w1.drew) BK0.out 0).trans rfl
  have d1 : w1.drew.cell? ⟨g0, 1, none⟩ = some (.string ⟨#[]⟩) := (cells_at (w := w1.drew) BK0.out 1).trans rfl
  have f0 := fz_at (w := w1.drew) BK0.out 0
  have f1 := fz_at (w := w1.drew) BK0.out 1
  have d0' : w1.cell? ⟨g0, 0, none⟩ = some (.int .i64 0) := (cells_at BK0.out 0).trans rfl
  have d1' : w1.cell? ⟨g0, 1, none⟩ = some (.string ⟨#[]⟩) := (cells_at BK0.out 1).trans rfl
  have f0' := fz_at BK0.out 0
  have f1' := fz_at BK0.out 1
  have c1' : w1.cell? ⟨j, 1, none⟩ = some (.int .i64 ver) := (cells_at HJ1.out 1).trans rfl
  have c2' : w1.cell? ⟨j, 2, none⟩ = some (.string txt) := (cells_at HJ1.out 2).trans rfl
  have c3' : w1.cell? ⟨j, 3, none⟩ = some (.bool any) := (cells_at HJ1.out 3).trans rfl
  have hne : j ≠ g0 := by have := HJ.out; have h1 := (Array.getElem?_eq_some_iff.1 HJ.out).1; have := HG.out; omega
  have hne2 : g0 ≠ j := fun e => hne e.symm
  obtain ⟨w2, hw2⟩ : ∃ w2 : World, w2 = w1.drew := ⟨_, rfl⟩
  have BK2 := Lib.hid (show w1.drew.heap[g0]? = some (.cells #[.int .i64 0, .string ⟨#[]⟩] 23 (0, 0)) from BK0.out)
  have HB2 := Lib.hid (show Below w.heap.size w w1.drew from HB.out.drew)
  clear hw2
  go_wp2
  go_region_o
  all_goals go_wp2
  have b1 := blk_put (cs' := #[.int .i64 ver, .string ⟨#[]⟩]) BK0.out 0 (.int .i64 ver) rfl
  have b2 := blk_put (cs' := #[.int .i64 ver, .string txt]) b1 1 (.string txt) rfl
  refine bodyPost_ret (results_ct rfl _ _ g0 23 #[.int .i64 ver, .string txt] (0, 0) _ rfl b2 Try.underlying23 rfl (by kernel_rfl)) rfl ?_
  exact ⟨rfl, ((HB.out.setCell (p := ⟨g0, 0, none⟩) HG.out _).setCell (p := ⟨g0, 1, none⟩) HG.out _).drew⟩
end Go.Proofs.Ytcoodlncjnekoaa.F
