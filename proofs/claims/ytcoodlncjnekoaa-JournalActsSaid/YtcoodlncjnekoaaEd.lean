import Derived.Test.YtcoodlncjnekoaaOw
import Derived.Test.YtcoodlncjnekoaaYc
import Derived.Deep.RegionLaw
import Derived.Shelf.Strings.BuilderCap
/- The document's disk: its block and its row of bytes; what its functions do. Conditions: each theorem's own. -/
namespace Go.Proofs.Ytcoodlncjnekoaa.E
open Go.RowKit Go.Proofs.YtcoodlncjnekoaaW.PrintWords Go.Proofs.Ytcoodlncjnekoaa.D
set_option linter.unusedVariables false
set_option linter.unusedSimpArgs false
def bcel : List (Int × Bool) → List Value
  | [] => []
  | p :: l => .int .u8 p.1 :: .bool p.2 :: bcel l
/-- The document's disk: block g holds its room and its row v. -/
structure Rk (w : World) (B g : Nat) (v : Value) (room : Int) (bs : List (Int × Bool)) : Prop where
  base : B ≤ g
  blk : w.heap[g]? = some (.cells #[.int .i64 room, v] 108 (0, 0))
  own : w.ownsRow B 110 2 v bs.length (bcel bs)
theorem Rk.lt {w : World} {B g : Nat} {v : Value} {room : Int} {bs : List (Int × Bool)} (h : Rk w B g v room bs) : g < w.heap.size := (Array.getElem?_eq_some_iff.1 h.blk).1
theorem Rk.move {w w' : World} {B g : Nat} {v : Value} {room : Int} {bs : List (Int × Bool)} (h : Rk w B g v room bs) (hm : ∀ i, i < w.heap.size → foot g v i → w'.heap[i]? = w.heap[i]?) : Rk w' B g v room bs :=
  ⟨h.base, (hm g h.lt (.inl rfl)).trans h.blk, own_move h.own (fun k hk => hm k (own_lt h.own k hk) (.inr hk))⟩
theorem Rk.below {w w' : World} {B g : Nat} {v : Value} {room : Int} {bs : List (Int × Bool)} (h : Rk w B g v room bs) (hb : Below w.heap.size w w') : Rk w' B g v room bs := h.move (fun i hi _ => hb.block i hi)
theorem Rk.lower {w : World} {B B' g : Nat} {v : Value} {room : Int} {bs : List (Int × Bool)} (h : Rk w B g v room bs) (hb : B' ≤ B) : Rk w B' g v room bs := ⟨Nat.le_trans hb h.base, h.blk, own_less h.own hb⟩
end Go.Proofs.Ytcoodlncjnekoaa.E
/- A disk appended to: where the buffer lies behind. Conditions: each theorem's own. -/
namespace Go.Proofs.Ytcoodlncjnekoaa.E
open Go.RowKit Go.Proofs.YtcoodlncjnekoaaW.PrintWords Go.Proofs.Ytcoodlncjnekoaa.D
set_option linter.unusedVariables false
set_option linter.unusedSimpArgs false
section
variable {P : Program} {w : World} {ops : Array Oper} {rest : List Oper} {o : Oper} {a : Act} {Q : Exit → Act → World → Prop}
/-- append(v, s...): the row is where it was, or in a new block. -/
theorem run_string_at (base : Nat) (t u ty e : TypeId) (i : TypeInfo) (ht : P.underlying t = some (.slice e)) (hu : P.underlying u = some .string) (hi : P.info? e = some i) (hz : i.zero = some (.int .u8 0)) (hsize : i.size = 1) (hby : i.bytes = 1)
    (v : Value) (n : Nat) (xs : List Value) (hown : w.ownsRowF base e 1 v n xs) (s : ByteArray) (h63 : n + s.size ≤ maxLen) (hbytes : n + s.size ≤ 140737488355328) (hbase : base ≤ w.heap.size) :
    ∃ v' w', (Builtin.append_ #[t, u] ty #[v, .string s]).run P w = .ok v' w' ∧ w'.ownsRowF base e 1 v' (n + s.size) (xs ++ Lib.strCells s) ∧ w.grownBy w' v.ownBlock ∧ (v' = .slice none 0 0 ↔ v = .slice none 0 0 ∧ s.size = 0) ∧
      (v'.ownBlock = v.ownBlock ∨ ∃ b, v'.ownBlock = some b ∧ w.heap.size ≤ b) := by
  obtain ⟨v', w', hr, h2, h3, h4, _⟩ := Lib.run_append_own_stringF_cap (P := P) w base t u ty e i ht hu hi hz hsize hby v n xs hown s h63 hbytes hbase
  refine ⟨v', w', hr, h2, h3, h4, ?_⟩
  rcases hown.2 with ⟨rfl, rfl⟩ | ⟨g, cap, cur, fz, rfl, hbg, hg, hfz, hnc, hcm, hcs, htake⟩
  · obtain ⟨v2, w2, hr2, k2, _⟩ := Lib.run_append_own_stringF_cap (P := P) w w.heap.size t u ty e i ht hu hi hz hsize hby (.slice none 0 0) 0 xs ⟨hown.1, .inl ⟨rfl, rfl⟩⟩ s h63 hbytes (Nat.le_refl _)
    rw [hr] at hr2
    injection hr2 with e1 _
    subst e1
    rcases k2.2 with ⟨e2, _⟩ | ⟨g2, _, _, _, e2, hb2, _⟩
    · exact .inl (by rw [e2])
    · exact .inr ⟨g2, by rw [e2]; simp [Value.ownBlock], hb2⟩
  · have hsmall : n + s.size ≤ 9223372036854775807 := by simp only [maxLen] at h63; omega
    have hxl : xs.length = n := by simpa using hown.1
    by_cases hroom : n + s.size ≤ cap
    · have hcs' : cur.size = cap := by simpa using hcs
      have hr2 := Lib.run_append_room_stringF (P := P) w t u ty e i ht hu hi hsize g n cap cur fz hg (by simpa using hfz) s hroom (by omega)
      rw [hr] at hr2
      injection hr2 with e1 _
      exact .inl (by rw [e1]; simp [Value.ownBlock])
    · have holds : ∀ j u, xs[j]? = some u → w.cell? ((⟨g, 0, none⟩ : Addr).add j) = some u := hown.cells (g := g) rfl
      have hr2 := Lib.run_append_grow_string (P := P) w t u ty e i (.int .u8 0) ht hu hi hz ⟨g, 0, none⟩ n cap xs (by rw [hsize]; simpa using hxl) holds s (by omega) (by omega) (by rw [hby]; exact growslice_fits (by omega) (by omega))
      rw [hr] at hr2
      injection hr2 with e1 _
      exact .inr ⟨w.heap.size, by rw [e1]; simp [Value.ownBlock], Nat.le_refl _⟩
theorem wpList_string_at (hgd : o.guard = none) (sl x : Operand) (t u : TypeId) (ho : o.op = .call { callee := .builtin .append, args := #[sl, x], argTypes := #[t, u] })
    (base : Nat) (e : TypeId) (i : TypeInfo) (ht : P.underlying t = some (.slice e)) (hu : P.underlying u = some .string) (hi : P.info? e = some i) (hz : i.zero = some (.int .u8 0)) (hsize : i.size = 1) (hby : i.bytes = 1)
    (v : Value) (n : Nat) (xs : List Value) (hs : a.eval sl = v) (hown : w.ownsRowF base e 1 v n xs) (s : ByteArray) (hx : a.eval x = .string s) (h63 : n + s.size ≤ maxLen) (hbytes : n + s.size ≤ 140737488355328) (hbase : base ≤ w.heap.size)
    (h : ∀ v' w', w'.ownsRowF base e 1 v' (n + s.size) (xs ++ Lib.strCells s) → w.grownBy w' v.ownBlock → (v' = .slice none 0 0 ↔ v = .slice none 0 0 ∧ s.size = 0) → (v'.ownBlock = v.ownBlock ∨ ∃ b, v'.ownBlock = some b ∧ w.heap.size ≤ b) → wpList P ops Q rest (a.put o.dst v') w') : wpList P ops Q (o :: rest) a w := by
  obtain ⟨v', w', hr, k1, k2, k3, k4⟩ := run_string_at (P := P) (w := w) base t u o.type e i ht hu hi hz hsize hby v n xs hown s h63 hbytes hbase
  refine wpList_plain hgd fun K hK => ?_
  unfold Oper.wp
  simp [execOp, ho, resolve, invoke, builtin, hs, hx, hr, Result.andThen]
  exact hK _ _ (h v' w' k1 k2 k3 k4)
end
set_option maxHeartbeats 1000000 in
set_option maxRecDepth 100000 in
theorem write_dk2 {w : World} {B g : Nat} {v : Value} {room safe : Int} {T : ByteArray} (h : Dk w B g v room safe T) (s : ByteArray) (hlen : T.size + s.size ≤ 140737488355328) (hBw : B ≤ w.heap.size) :
    Calls Try.prog 60 #[.pointer (some ⟨g, 1, none⟩), .string s] w fun e w' => e = .returned (.tuple #[.int .i64 s.size, .nilIface]) ∧ ∃ v', Dk w' B g v' room safe (T ++ s) ∧ D.Left w w' B g v ∧ (v'.ownBlock = v.ownBlock ∨ ∃ b, v'.ownBlock = some b ∧ w.heap.size ≤ b) := by
  obtain ⟨i0, hi, hz0, hz1, hz2⟩ := info_parts info5
  have hC := Lib.hid (check_dk h)
  have HH := Lib.hid h
  have hlt := Lib.hid h.lt
  have hne := Lib.hid h.ne
  clear h
  go_enter Try.func60, Try.ntmps60
  go_wp2_with fail
  refine hC.out.mono ?_
  rintro e w1 ⟨rfl, hbk, hk1, hb1⟩
  have hown : w1.ownsRowF B 5 1 v T.size (nums .u8 (bytesOf T)) := ownF_move HH.out.own (fun k hk => hk1 k (fun e => hne.out (by rw [hk, e])))
  have c2 : w1.cell? ⟨g, 2, none⟩ = some v := (cells_at hbk 2).trans rfl
  have HB1 := Lib.hid hb1
  have HK1 := Lib.hid hk1
  have HBK := Lib.hid hbk
  have HO := Lib.hid hown
  obtain ⟨A, c, hv⟩ := HH.out.slice
  clear hb1 hk1 hbk hown
  subst hv
  go_wp2_with (at_builtin; refine wpList_string_at rfl _ _ 62 9 rfl B 5 i0 Try.underlying62 Try.underlying9 hi hz0 hz1 hz2 _ _ _ rfl HO.out s rfl ?c3 ?c4 ?c5 ?_)
  case c3 => unfold maxLen; omega
  case c4 => omega
  case c5 => have := HB1.out.size; omega
  intro v' w2 hown' hgrow hnil hat
  have HAT := Lib.hid hat
  clear hat
  have hb2 : w2.heap[g]? = some (.cells #[.int .i64 room, .pointer (some ⟨g, 1, none⟩), .slice A T.size c, .int .i64 safe] 105 (0, 0)) := by
    rw [hgrow.block g (Nat.lt_of_lt_of_le hlt.out HB1.out.size) (fun e => hne.out e.symm)]
    exact HBK.out
  have d2 : w2.cell? ⟨g, 2, none⟩ = some (.slice A T.size c) := (cells_at hb2 2).trans rfl
  have f2 : w2.frozen? ⟨g, 2, none⟩ = false := fz_at hb2 2
  obtain ⟨A', n', c', rfl⟩ : ∃ A' n' c', v' = .slice A' n' c' := by
    rcases hown'.2 with ⟨hv, _⟩ | ⟨_, cap, _, _, hv, _⟩
    · exact ⟨_, _, _, hv⟩
    · exact ⟨_, _, _, hv⟩
  have HB2 := Lib.hid hb2
  have HO2 := Lib.hid hown'
  have HG2 := Lib.hid hgrow
  have HN2 := Lib.hid hnil
  clear hb2 hown' hgrow hnil c2
  go_wp2_with fail
  go_ret2
  refine ⟨rfl, .slice A' n' c', ⟨HH.out.base, ⟨_, by simp [World.setCell, Array.getElem?_modify, HB2.out], .inr rfl⟩, ?_, ?_⟩, ⟨?_, ?_⟩, ?_⟩
  · have h2 := ownF_move (w' := w2.setCell ⟨g, 2, none⟩ (.slice A' n' c')) HO2.out (fun k hk => Below.heap_setCell _ _ _ _ (fun e => Lib.ownBlock_neF HO2.out HB2.out (by decide) (by rw [hk]; exact congrArg some e)))
    rw [ByteArray.size_append, bytesOf_app, nums_append, ← cells_bytes s]
    exact h2
  · intro h0
    rw [ByteArray.size_append] at h0
    have hq := HN2.out
    have hz : ∀ x : ByteArray, x.size = 0 → x = ByteArray.empty := fun x hx => ByteArray.ext (Array.eq_empty_of_size_eq_zero hx)
    have h1 := HH.out.nil (by omega)
    injection h1 with h1 _ h2
    exact hq.2 ⟨⟨h1, hz T (by omega), h2⟩, hz s (by omega)⟩
  · exact (HB1.out.grown HG2.out (Nat.le_trans hBw HB1.out.size |> fun h => h) (fun k hk => (HH.out.own.lt k hk).1)).setCell (p := ⟨g, 2, none⟩) HH.out.base _
  · intro i hi hf
    rw [Below.heap_setCell _ _ _ _ (fun e => hf (.inl e)), HG2.out.block i (Nat.lt_of_lt_of_le hi HB1.out.size) (fun e => hf (.inr e.symm)), HK1.out i (fun e => hf (.inl e))]
  · exact HAT.out.imp id (fun ⟨b, hb, hle⟩ => ⟨b, hb, Nat.le_trans HB1.out.size hle⟩)
theorem append_dk2 {w : World} {B g : Nat} {v : Value} {room safe : Int} {T : ByteArray} (h : Dk w B g v room safe T) (s : ByteArray) (hs : s.size ≤ 140737488351232) (hr : room ≤ 1048576) (hr0 : (T.size : Int) ≤ room) (hBw : B ≤ w.heap.size) :
    Calls Try.prog 31 #[.pointer (some ⟨g, 0, none⟩), .string s] w fun e w' => (if (s.size : Int) ≤ room - T.size then e = .returned (.int .i64 0) ∧ ∃ v', Dk w' B g v' room safe (T ++ s) ∧ D.Left w w' B g v ∧ (v'.ownBlock = v.ownBlock ∨ ∃ b, v'.ownBlock = some b ∧ w.heap.size ≤ b) else e = .returned (.int .i64 210) ∧ Dk w' B g v room safe T ∧ D.Left w w' B g v) := by
  have mixed := mixed
  obtain ⟨p, hb, hp⟩ := h.blk
  have c0 : w.cell? ⟨g, 0, none⟩ = some (.int .i64 room) := (cells_at hb 0).trans rfl
  have HLn := Lib.hid (fun m => len_dk (w := w.drewN m) (h.move (fun _ _ _ => rfl)))
  have HH := Lib.hid h
  have hw1 : wrap64 (room - (T.size : Int)) = room - (T.size : Int) := by unfold wrap64; omega
  clear hb hp h
  by_cases c : (s.size : Int) ≤ room - T.size
  · simp only [if_pos c]
    have hc : decide (room - (T.size : Int) < (s.size : Int)) = false := decide_eq_false (by omega)
    have HW := Lib.hid (fun m => write_dk2 (w := w.drewN m) (HH.out.move (fun _ _ _ => rfl)) s (by omega) hBw)
    clear c hs hr hr0 hBw
    go_enter Try.func31, Try.ntmps31
    go_wp2_with fail
    go_quiet ((first | (go_at_call 59; exact Calls.quiet_of_same (HLn.out _))))
    go_wp2_with fail
    refine (HW.out _).mono ?_
    rintro e w' ⟨rfl, v', h1, h2, h3⟩
    have H1 := Lib.hid h1
    have H2 := Lib.hid h2
    have H3 := Lib.hid h3
    clear h1 h2 h3
    go_wp2_with fail
    go_ret
    exact ⟨rfl, v', H1.out, ⟨(drewN_below w _ B).trans H2.out.1, fun i hi hf => H2.out.2 i hi hf⟩, H3.out⟩
  · simp only [if_neg c]
    have hc : decide (room - (T.size : Int) < (s.size : Int)) = true := decide_eq_true (by omega)
    clear c hs hr hr0 hBw
    go_enter Try.func31, Try.ntmps31
    go_wp2_with fail
    go_quiet ((first | (go_at_call 59; exact Calls.quiet_of_same (HLn.out _))))
    go_wp2_with fail
    go_ret
    exact ⟨rfl, HH.out.move (fun _ _ _ => rfl), drewN_below w _ B, fun _ _ _ => rfl⟩
end Go.Proofs.Ytcoodlncjnekoaa.E
