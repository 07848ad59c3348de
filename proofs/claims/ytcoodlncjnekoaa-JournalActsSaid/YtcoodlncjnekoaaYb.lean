import Derived.Test.YtcoodlncjnekoaaYa
/- JournalActs: a journal's Open of whatever disk, Append of what is no entry; the document's Last. Conditions: each theorem's own. -/
namespace Go.Proofs.Ytcoodlncjnekoaa.F
open Go.RowKit Go.Proofs.YtcoodlncjnekoaaW.PrintWords Go.Proofs.JournalPlain Go.Proofs.Ytcoodlncjnekoaa.D
set_option linter.unusedVariables false
set_option linter.unusedSimpArgs false
theorem jopen_nil (w : World) : Calls Try.prog 39 #[.pointer none] w fun e w' => e = .returned (.tuple #[.pointer none, .slice none 0 0, .int .i64 2]) ∧ w' = w := by
  go_enter Try.func39, Try.ntmps39
  go_wp2_with fail
  go_ret3
  exact ⟨rfl, rfl⟩
theorem jopen_torn {w : World} {B g : Nat} {v : Value} {room safe : Int} {T : ByteArray} (h : Dk w B g v room safe T) (hBw : B ≤ w.heap.size) (es : List S23) (n : Int) (K : Nat) (hR : journal_Read.f K T = some (es, n)) (hn : n ≠ (T.size : Int)) :
    Calls Try.prog 39 #[.pointer (some ⟨g, 0, none⟩)] w fun e w' => e = .returned (.tuple #[.pointer none, .slice none 0 0, .int .i64 220]) ∧ Dk w' B g v room safe T ∧ D.Left w w' B g v := by
  have HC := Lib.hid (bytes_dk h)
  have CR := Lib.hid (fun W => journal_Read.calls K T es n W hR)
  have HBW := Lib.hid hBw
  have hne : (n == (T.size : Int)) = false := beq_eq_false_iff_ne.2 hn
  clear h hR hBw
  go_enter Try.func39, Try.ntmps39
  go_wp2_with fail
  refine HC.out.mono ?_
  rintro e w1 ⟨rfl, hd, hl⟩
  have HD1 := Lib.hid hd
  have HL1 := Lib.hid hl
  clear hd hl
  go_wp2_with fail
  refine (CR.out _).mono ?_
  rintro e w2 ⟨u, rfl, hr, hb⟩
  obtain ⟨Ag, cg, rfl⟩ := Kd.R_slice hr
  have HB2 := Lib.hid hb
  clear hr hb
  go_wp2_with fail
  go_ret3
  exact ⟨rfl, HD1.out.below HB2.out, HL1.out.1.trans (below_weak HB2.out (Nat.le_trans HBW.out HL1.out.1.size)), fun i hi hf => (HB2.out.block i (Nat.lt_of_lt_of_le hi HL1.out.1.size)).trans (HL1.out.2 i hi hf)⟩
theorem jopen_none {w : World} {B g : Nat} {v : Value} {room safe : Int} {T : ByteArray} (h : Dk w B g v room safe T) (hBw : B ≤ w.heap.size) (K : Nat) (hR : journal_Read.f K T = some ([], (T.size : Int))) :
    Calls Try.prog 39 #[.pointer (some ⟨g, 0, none⟩)] w fun e w' => ∃ j u, e = .returned (.tuple #[.pointer (some ⟨j, 0, none⟩), u, .int .i64 0]) ∧ Dk w' B g v room safe T ∧ Jn w' j g 0 ⟨#[]⟩ false ∧ Kd.R k23 23 w' w.heap.size (fun _ => True) u [] ∧ D.Left w w' B g v ∧ w.heap.size ≤ j := by
  have hu23 := Try.underlying23
  have HC := Lib.hid (bytes_dk h)
  have CR := Lib.hid (fun W => journal_Read.calls K T [] (T.size : Int) W hR)
  have HBW := Lib.hid hBw
  clear h hR hBw
  go_enter Try.func39, Try.ntmps39
  go_wp2_with fail
  refine HC.out.mono ?_
  rintro e w1 ⟨rfl, hd, hl⟩
  have HD1 := Lib.hid hd
  have HL1 := Lib.hid hl
  clear hd hl
  go_wp2_with fail
  refine (CR.out _).mono ?_
  rintro e w2 ⟨u, rfl, hr, hb⟩
  obtain ⟨Ag, cg, rfl⟩ := Kd.R_slice hr
  have HR2 := Lib.hid hr
  have HB2 := Lib.hid hb
  clear hr hb
  go_wp2_with ((with_reducible refine gate_dst (N := 24) rfl ?_); refine box_event rfl (N := 24) rfl (cs := #[.pointer (some ⟨g, 0, none⟩), .int .i64 0, .string ⟨#[]⟩, .bool false]) (t := 116) ?hr ?_; (case hr => first | (go_simp; done) | (go_simp; rfl)); intro j hg w3 hb0 hbel; have HJG := Lib.hid (show w2.heap.size ≤ j by rw [hg]; exact Nat.le_refl _); have HB3 := Lib.hid hbel; have BK3 := Lib.hid hb0; have HR3 := Lib.hid (Kd.R_below HR2.out hbel); clear hg hb0 hbel)
  go_ret3
  have hB13 := below_step HB2.out HB3.out
  have hj1 : w1.heap.size ≤ j := Nat.le_trans HB2.out.size HJG.out
  refine ⟨j, _, rfl, HD1.out.below hB13, BK3.out, Kd.R_lower HR3.out HL1.out.1.size, ?_, Nat.le_trans HL1.out.1.size hj1⟩
  exact ⟨HL1.out.1.trans (below_weak hB13 (Nat.le_trans HBW.out HL1.out.1.size)), fun i hi hf => (hB13.block i (Nat.lt_of_lt_of_le hi HL1.out.1.size)).trans (HL1.out.2 i hi hf)⟩
theorem jopen_all {w : World} {B g : Nat} {v : Value} {room safe : Int} {T : ByteArray} (h : Dk w B g v room safe T) (hBw : B ≤ w.heap.size) (es : List S23) (K : Nat) (hR : journal_Read.f K T = some (es, (T.size : Int))) (hn : es.length ≤ 1048576) :
    Calls Try.prog 39 #[.pointer (some ⟨g, 0, none⟩)] w fun e w' => ∃ j u ver txt, e = .returned (.tuple #[.pointer (some ⟨j, 0, none⟩), u, .int .i64 0]) ∧ Dk w' B g v room safe T ∧ Jn w' j g ver txt (decide (0 < es.length)) ∧
      (0 < es.length → ver = (rd_T23 es ((es.length : Int) - 1)).f0 ∧ txt = (rd_T23 es ((es.length : Int) - 1)).f1) ∧ (es.length = 0 → ver = 0 ∧ txt = ⟨#[]⟩) ∧ Kd.R k23 23 w' w.heap.size (fun _ => True) u es ∧ D.Left w w' B g v ∧ w.heap.size ≤ j := by
  by_cases c : 0 < es.length
  · refine (jopen h hBw es K hR hn).mono ?_
    rintro e w' ⟨j, u, ver, txt, h1, h2, h3, h4, h5, h6, h7⟩
    exact ⟨j, u, ver, txt, h1, h2, h3, h4, fun e => by omega, h5, h6, h7⟩
  · obtain rfl : es = [] := List.eq_nil_of_length_eq_zero (by omega)
    refine (jopen_none h hBw K hR).mono ?_
    rintro e w' ⟨j, u, h1, h2, h3, h5, h6, h7⟩
    exact ⟨j, u, 0, ⟨#[]⟩, h1, h2, h3, fun h => absurd h (by decide), fun _ => ⟨rfl, rfl⟩, h5, h6, h7⟩
theorem jappend_not {w : World} {j g : Nat} {ver : Int} {txt : ByteArray} {any : Bool} (hj : Jn w j g ver txt any) (x c : Int) (y : ByteArray) (hy : y.size ≤ 140737488351232) (hc : c = 3 ∨ c = 5) (hf : frame x y = ((⟨#[]⟩ : ByteArray), c)) :
    Calls Try.prog 44 #[.pointer (some ⟨j, 0, none⟩), .agg #[.int .i64 x, .string y]] w fun e w' => e = .returned (.int .i64 c) ∧ Below w.heap.size w w' := by
  have hu23 := Try.underlying23
  have CR := Lib.hid (fun W => journal_Frame.calls (KF y) x y ⟨#[]⟩ c W (by rw [Frame_f _ _ _ (Nat.le_refl _), hf]))
  have hc0 : (c == 0) = false := beq_eq_false_iff_ne.2 (by omega)
  clear hf hj
  go_enter Try.func44, Try.ntmps44
  go_wp2_with ((with_reducible refine gate_dst (N := 3) rfl ?_); refine box_event rfl (N := 3) rfl (cs := #[.int .i64 x, .string y]) (t := 23) ?hr ?_; (case hr => first | (go_simp; done) | (go_simp; rfl)); intro g0 hg w1 hb0 hbel; have HB := Lib.hid hbel; have BK0 := Lib.hid hb0; obtain ⟨a0, a1⟩ := cells23 hb0 (Below.refl _ _); clear hg hb0 hbel)
  refine (CR.out _).mono ?_
  rintro e w2 ⟨rfl, hb⟩
  have HB2 := Lib.hid (below_step HB.out hb)
  clear hb a0 a1
  go_wp2_with fail
  go_ret
  exact ⟨rfl, HB2.out⟩
end Go.Proofs.Ytcoodlncjnekoaa.F
