import Derived.WalkKit
import Derived.Maps.OwnSet
import Derived.Test.YtcoodlncjnekoaaWKept
import Derived.Test.YtcoodlncjnekoaaWWords
import Derived.Test.YtcoodlncjnekoaaYb
import Derived.StillTailTactics
/- Maps that only grow, told by their entries in the order in which they came: any key type whose equality is a Bool function (floats that are no numbers too). No condition. -/
namespace Go.Proofs.YtcoodlncjnekoaaW.Raw
open Go.RowKit Go.ChangeMaps Go.MapKept

/-- Block b is a map with these keys and these values, in the order in which they came. -/
def IsRaw (w : World) (b : Nat) (ks vs : List Value) : Prop := ∃ es clock, w.heap[b]? = some (.map es clock) ∧ es.toList.map (·.key) = ks ∧ es.toList.map (·.val) = vs

structure Key (P : Program) (K : TypeId) {α : Type} (enc : α → Value) (eq : α → α → Bool) : Prop where
  check : ∀ (w : World) (b : Bool) (x : α), (Instr.checkKey b 10000 K (enc x)).run P w = .ok () w
  find : ∀ (w : World) (x : α) (es : List MapEntry) (xs : List α), es.map (·.key) = xs.map enc →
    (Instr.findKey K (enc x) es).run P w = .ok ((xs.findIdx? (eq x)).map fun i => (i, (es.map (·.val)).getD i default)) w

section
variable {P : Program} {K t e : TypeId} {α : Type} {enc : α → Value} {eq : α → α → Bool} {w : World} {b : Nat} {xs : List α} {vs : List Value} {z : Value}

theorem IsRaw.len (h : IsRaw w b (xs.map enc) vs) : vs.length = xs.length := by
  obtain ⟨es, clock, _, h1, h2⟩ := h
  have := congrArg List.length h1
  have := congrArg List.length h2
  simp at *
  omega
theorem IsRaw.lt {ks : List Value} (h : IsRaw w b ks vs) : b < w.heap.size := by
  obtain ⟨es, clock, hb, _⟩ := h
  exact (Array.getElem?_eq_some_iff.1 hb).1
theorem IsRaw.move {ks : List Value} {w' : World} (h : IsRaw w b ks vs) (hb : w'.heap[b]? = w.heap[b]?) : IsRaw w' b ks vs := by
  obtain ⟨es, clock, h0, h1, h2⟩ := h
  exact ⟨es, clock, hb.trans h0, h1, h2⟩

/-! ### at the operation -/
variable {ops : Array Oper} {rest : List Oper} {o : Oper} {a : Act} {Q : Exit → Act → World → Prop}
end

/-! ### keys -/
end Go.Proofs.YtcoodlncjnekoaaW.Raw
/- More of maps that only grow: an entry written over, what is kept, and how they stand beside other blocks. No condition. -/
namespace Go.Proofs.YtcoodlncjnekoaaW.Raw
open Go.RowKit Go.ChangeMaps Go.MapKept Go.Proofs.YtcoodlncjnekoaaW.PrintWords
set_option linter.unusedVariables false

theorem IsRaw.below {w w' : World} {b : Nat} {ks vs : List Value} (h : IsRaw w b ks vs) (hb : Below w.heap.size w w') : IsRaw w' b ks vs := h.move (hb.block b h.lt)

section
variable {P : Program} {K t e : TypeId} {α : Type} {enc : α → Value} {eq : α → α → Bool} {w : World} {b : Nat} {xs : List α} {vs : List Value} {z : Value}
variable {ops : Array Oper} {rest : List Oper} {o : Oper} {a : Act} {Q : Exit → Act → World → Prop}
end
theorem bstore {P : Program} {ops : Array Oper} {rest : List Oper} {o : Oper} {a : Act} {Q : Exit → Act → World → Prop} {W : World} {t e : TypeId} {p : Tmp} {v : Operand} (hg : o.guard = none) (ho : o.op = .store t (.tmp p) v) (hN : o.dst = none) (g : Nat) (cur seg : Array Value) (u : Value)
    (hp : a.eval (.tmp p) = .pointer (some ⟨g, 0, none⟩)) (hv : a.eval v = u) (hu : u.cells.toList = seg.toList) (hh : W.heap[g]? = some (.cells cur e (0, 0))) (ht : (P.info? t).map (·.size) = some seg.size) (hsz : cur.size = seg.size) (h1 : ∀ q ∈ seg.toList, q.oneCell' = true)
    (h : ∀ w1 : World, w1.heap[g]? = some (.cells seg e (0, 0)) → (∀ i, i ≠ g → w1.heap[i]? = W.heap[i]?) → w1.heap.size = W.heap.size → (∀ B, B ≤ g → Below B W w1) → wpList P ops Q rest a w1) : wpList P ops Q (o :: rest) a W := by
  have hrun := run_store_run (P := P) (w := W) (o := 0) t u seg.toList hh hu (by rw [ht, Array.length_toList]) (by rw [Array.length_toList]; omega) h1
  obtain ⟨cur', h3, h4, h5⟩ := setCells_row seg.toList 0 W cur hh (by rw [Array.length_toList]; omega)
  have e5 : cur' = seg := by
    apply Array.ext'
    rw [h5, List.take_zero, List.nil_append, List.drop_of_length_le (by rw [Array.length_toList, Array.length_toList]; omega), List.append_nil]
  rw [e5] at h3
  obtain ⟨s1, s2, s3, s4⟩ := setCells_same g seg.toList 0 W
  refine store_event (w1 := W.setCells g 0 seg.toList) hg (t := t) (p := p) (v := v) ho hN ?_ (fun w' e => ?_)
  · simp only [execOp, ho, hp, hv]
    simp [hrun, Result.andThen]
  · subst e
    exact h _ h3 (fun i hi => setCells_far _ _ _ hi) s4 (fun B hB => ⟨s1, s2, s3, by rw [s4]; exact Nat.le_refl _, fun i hi => setCells_far _ _ _ (by omega)⟩)

end Go.Proofs.YtcoodlncjnekoaaW.Raw
/- JournalActs: the document's Last. Conditions: each theorem's own. -/
namespace Go.Proofs.Ytcoodlncjnekoaa.F
open Go.RowKit Go.Proofs.YtcoodlncjnekoaaW.Raw Go.Proofs.YtcoodlncjnekoaaW.PrintWords Go.Proofs.JournalPlain Go.Proofs.Ytcoodlncjnekoaa.D
set_option linter.unusedVariables false
set_option linter.unusedSimpArgs false
set_option maxRecDepth 100000 in
theorem rlast_none {W : World} {t : Nat} {A : Option Addr} {cc : Nat} {g j : Value} {T : ByteArray} {room safe : Int} (hb : W.heap[t]? = some (.cells #[g, j, .string T, .int .i64 room, .int .i64 safe, .slice A 0 cc] 82 (0, 0))) :
    Calls Try.prog 63 #[.pointer (some ⟨t, 2, none⟩)] W fun e W' => e = .returned (.tuple #[.agg #[.int .i64 0, .string ⟨#[]⟩], .bool false]) ∧ Below W.heap.size W W' := by
  have HT := Lib.hid hb
  clear hb
  go_enter Try.func63, Try.ntmps63
  go_wp2_with (first | ((with_reducible refine gate_dst (N := 2) rfl ?_); refine box_event rfl (N := 2) rfl (cs := #[.int .i64 0, .string ⟨#[]⟩]) (t := 23) ?hr ?_; (case hr => first | (go_simp; done) | (go_simp; rfl)); intro b2 hg_ w1 hb1 hB1; have HL := Lib.hid (show W.heap.size ≤ b2 from by rw [hg_]; exact Nat.le_refl _); clear hg_; have HB1 := Lib.hid hB1; have K1 := Lib.hid hb1; have c5 : w1.cell? ⟨t, 5, none⟩ = some (.slice A 0 cc) := cells_at ((hB1.block _ (lt_blk HT.out)).trans HT.out) 5; clear hb1 hB1) | ((with_reducible refine gate_ (.store 23 (.tmp 2) (.tmp 10)) rfl ?_); refine bstore (t := 23) (p := 2) (v := .tmp 10) rfl rfl rfl b2 _ #[.int .i64 0, .string ⟨#[]⟩] (.agg #[.int .i64 0, .string ⟨#[]⟩]) rfl rfl rfl K1.out (by kernel_rfl) rfl (by simp [Value.oneCell']) ?_; intro w4 hb4 hs4 hz4 hB4; have K4 := Lib.hid hb4; have HB4 := Lib.hid (HB1.out.trans (hB4 _ HL.out)); clear hb4 hs4 hz4 hB4))
  refine bodyPost_ret (results_ct rfl _ _ b2 23 #[.int .i64 0, .string ⟨#[]⟩] (0, 0) _ rfl K4.out Try.underlying23 rfl (by kernel_rfl)) rfl ?_
  exact ⟨rfl, HB4.out⟩
set_option maxRecDepth 100000 in
theorem rlast_some {W : World} {t B : Nat} {L : Value} {g j : Value} {T : ByteArray} {room safe : Int} {es : List S23} (hb : W.heap[t]? = some (.cells #[g, j, .string T, .int .i64 room, .int .i64 safe, L] 82 (0, 0))) (hr : Rt W B L es) (hl : es.length ≤ 2000000) (hpos : 0 < es.length) :
    Calls Try.prog 63 #[.pointer (some ⟨t, 2, none⟩)] W fun e W' => e = .returned (.tuple #[.agg #[.int .i64 (rd_T23 es ((es.length : Int) - 1)).f0, .string (rd_T23 es ((es.length : Int) - 1)).f1], .bool true]) ∧ Below W.heap.size W W' := by
  obtain ⟨A, cc, rfl⟩ := Kd.R_slice hr
  have hw1 : wrap64 ((es.length : Int) - 1) = (es.length : Int) - 1 := by unfold wrap64; omega
  have hi0 : (0 : Int) ≤ (es.length : Int) - 1 := by omega
  have hi1 : (es.length : Int) - 1 < (es.length : Int) := by omega
  have hnat : ((es.length : Int) - 1).toNat = es.length - 1 := by omega
  have hwr : IntKind.i64.wrap ((es.length : Int) - 1) = (es.length : Int) - 1 := by rw [IntKind.wrap_i64]; omega
  have hle : (1 : Int) ≤ (es.length : Int) := by omega
  have hle2 : 1 ≤ es.length := hpos
  have hlt2 : es.length - 1 < es.length := by omega
  have hcast : (((es.length : Int) - 1).toNat) = es.length - 1 := hnat
  have hz : ((es.length : Int) == 0) = false := beq_eq_false_iff_ne.2 (by omega)
  have hz2 : (es.length == 0) = false := beq_eq_false_iff_ne.2 (by omega)
  have HT := Lib.hid hb
  have HR := Lib.hid hr
  have mixed := mixed
  clear hb hr
  go_enter Try.func63, Try.ntmps63
  go_wp2_with (first | ((with_reducible refine gate_dst (N := 2) rfl ?_); refine box_event rfl (N := 2) rfl (cs := #[.int .i64 0, .string ⟨#[]⟩]) (t := 23) ?hr ?_; (case hr => first | (go_simp; done) | (go_simp; rfl)); intro b2 hg_ w1 hb1 hB1; have HL := Lib.hid (show W.heap.size ≤ b2 from by rw [hg_]; exact Nat.le_refl _); clear hg_; have HB1 := Lib.hid hB1; have K1 := Lib.hid hb1; have c5 : w1.cell? ⟨t, 5, none⟩ = some (.slice A es.length cc) := cells_at ((hB1.block _ (lt_blk HT.out)).trans HT.out) 5; obtain ⟨ad, e23, r0, r1⟩ := at_T23 (Kd.R_reads' (HR.out.below hB1)).2.2 _ hi0 hi1; cases e23; rw [hnat] at r0 r1; clear hb1 hB1))
  have d0 : w1.cell? ⟨b2, 0, none⟩ = some (.int .i64 0) := (cells_at K1.out 0).trans rfl
  have d1 : w1.cell? ⟨b2, 1, none⟩ = some (.string ⟨#[]⟩) := (cells_at K1.out 1).trans rfl
  have f0 := fz_at K1.out 0
  have f1 := fz_at K1.out 1
  go_still_tail 12, mixed
  go_wp2_with fail
  have k1 : w1.drew.heap[b2]? = some (.cells #[.int .i64 0, .string ⟨#[]⟩] 23 (0, 0)) := K1.out
  have p1 := blk_put (cs' := #[.int .i64 (rd_T23 es ((es.length : Int) - 1)).f0, .string ⟨#[]⟩]) k1 0 (.int .i64 (rd_T23 es ((es.length : Int) - 1)).f0) rfl
  have p2 := blk_put (cs' := #[.int .i64 (rd_T23 es ((es.length : Int) - 1)).f0, .string (rd_T23 es ((es.length : Int) - 1)).f1]) p1 1 (.string (rd_T23 es ((es.length : Int) - 1)).f1) rfl
  refine bodyPost_ret (results_ct rfl _ _ b2 23 #[.int .i64 (rd_T23 es ((es.length : Int) - 1)).f0, .string (rd_T23 es ((es.length : Int) - 1)).f1] (0, 0) _ rfl p2 Try.underlying23 rfl (by kernel_rfl)) rfl ?_
  exact ⟨rfl, (HB1.out.drew.setCell (p := ⟨b2, 0, none⟩) HL.out _).setCell (p := ⟨b2, 1, none⟩) HL.out _⟩
/-- The document's Last says what the journal's does. -/
theorem Al.rlast {B : Nat} {f : Nat → Prop} {W : World} {t g j : Nat} {v : Value} {room safe ver : Int} {T txt : ByteArray} {L : Value} {es : List S23} (h : Al B f W t g j v room safe ver T txt L es) :
    Calls Try.prog 63 #[.pointer (some ⟨t, 2, none⟩)] W fun e W' => e = .returned (.tuple #[.agg #[.int .i64 ver, .string txt], .bool (decide (0 < es.length))]) ∧ Below W.heap.size W W' := by
  by_cases hp : 0 < es.length
  · rw [decide_eq_true hp, (h.last hp).1, (h.last hp).2]
    exact rlast_some h.blk h.row (by have := h.elen; omega) hp
  · obtain rfl : es = [] := List.eq_nil_of_length_eq_zero (by omega)
    obtain ⟨A, cc, hL⟩ := Kd.R_slice h.row
    have hb := h.blk
    rw [hL] at hb
    rw [(h.zero rfl).1, (h.zero rfl).2]
    exact rlast_none hb
end Go.Proofs.Ytcoodlncjnekoaa.F
