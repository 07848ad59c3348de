import Derived.Test.YtcoodlncjnekoaaF0
import Derived.Shelf.Strings.BuilderF
import Derived.Lib.Hide
/- A disk: its block, its builder, its buffer; what its functions do. Conditions: each theorem's own. -/
namespace Go.Proofs.Ytcoodlncjnekoaa.D
open Go.RowKit Go.Proofs.YtcoodlncjnekoaaW.PrintWords
set_option linter.unusedVariables false
theorem info103 : (Try.prog.info? 103).map (·.size) = some 2 := by kernel_rfl
theorem lies103 : liesAt Try.prog Try.prog.depth 105 (4 / Try.prog.cellsOf 105) 1 103 1 = true := by kernel_rfl
theorem cells_at {w : World} {g : Nat} {cs : Array Value} {t : TypeId} (h : w.heap[g]? = some (.cells cs t (0, 0))) (i : Nat) : w.cell? ⟨g, i, none⟩ = cs[i]? := by
  unfold World.cell?
  rw [h]
  simp
theorem fz_at {w : World} {g : Nat} {cs : Array Value} {t : TypeId} (h : w.heap[g]? = some (.cells cs t (0, 0))) (i : Nat) : w.frozen? ⟨g, i, none⟩ = false := by
  unfold World.frozen?
  rw [h]
  simp
theorem len_calls (g n c : Nat) (A : Option Addr) (R p S : Value) (w : World) (h : w.heap[g]? = some (.cells #[R, p, .slice A n c, S] 105 (0, 0))) :
    Calls Try.prog 59 #[.pointer (some ⟨g, 1, none⟩)] w fun e w' => e = .returned (.int .i64 n) ∧ w' = w := by
  have c2 : w.cell? ⟨g, 2, none⟩ = some (.slice A n c) := (cells_at h 2).trans rfl
  clear h
  go_enter Try.func59, Try.ntmps59
  go_wp2
  go_ret
  exact ⟨rfl, rfl⟩
set_option maxHeartbeats 1000000 in
set_option maxRecDepth 100000 in
theorem check_used (g : Nat) (R v S : Value) (w : World) (h : w.heap[g]? = some (.cells #[R, .pointer (some ⟨g, 1, none⟩), v, S] 105 (0, 0))) :
    Calls Try.prog 66 #[.pointer (some ⟨g, 1, none⟩)] w fun e w' => e = .returned (.tuple #[]) ∧ w' = w := by
  have c1 : w.cell? ⟨g, 1, none⟩ = some (.pointer (some ⟨g, 1, none⟩)) := (cells_at h 1).trans rfl
  obtain ⟨j, hj, _⟩ := Option.map_eq_some_iff.1 info103
  clear h
  go_enter Try.func66, Try.ntmps66
  go_wp2
  rw [Lib.run_neq_ptr_same w _ Try.underlying101 hj]
  go_wp2
  go_end0
  exact ⟨rfl, rfl⟩
set_option maxHeartbeats 1000000 in
set_option maxRecDepth 100000 in
theorem check_fresh (g : Nat) (R v S : Value) (w : World) (h : w.heap[g]? = some (.cells #[R, .pointer none, v, S] 105 (0, 0))) :
    Calls Try.prog 66 #[.pointer (some ⟨g, 1, none⟩)] w fun e w' => e = .returned (.tuple #[]) ∧ w' = w.setCell ⟨g, 1, none⟩ (.pointer (some ⟨g, 1, none⟩)) := by
  have c1 : w.cell? ⟨g, 1, none⟩ = some (.pointer none) := (cells_at h 1).trans rfl
  have f1 := fz_at h 1
  have hsh : w.shape? g = some (105, 4) := by unfold World.shape?; rw [h]; rfl
  obtain ⟨j, hj, hjs⟩ := Option.map_eq_some_iff.1 info103
  clear h
  go_enter Try.func66, Try.ntmps66
  go_wp2
  rw [Lib.run_to_unsafe w ⟨g, 1, none⟩ Try.underlying101 Try.underlying120 hj (by rw [hjs]; decide) hsh (show 1 < 4 by decide)]
  simp only [Result.andThen]
  rw [Oper.upon_value]
  go_wp2
  rw [run_callFunc_extern Try.func67 (by kernel_rfl) (by kernel_rfl) (by kernel_rfl) (e := Extern.AbiNoEscape.same) (by kernel_rfl)]
  rw [Lib.run_noEscape]
  simp only [Result.andThen]
  rw [Oper.upon_value]
  go_wp2
  rw [Lib.run_from_unsafe w ⟨g, 1, none⟩ Try.underlying120 Try.underlying101 hj hsh lies103]
  simp only [Result.andThen]
  rw [Oper.upon_value]
  go_wp2
  go_end0
  exact ⟨rfl, rfl⟩
/-- A disk: block g (one of the call's own: from B on) holds its room, its builder (whose own address is unset or right), its buffer v, how many bytes are safe; the buffer holds T. -/
structure Dk (w : World) (B g : Nat) (v : Value) (room safe : Int) (T : ByteArray) : Prop where
  base : B ≤ g
  blk : ∃ p, w.heap[g]? = some (.cells #[.int .i64 room, p, v, .int .i64 safe] 105 (0, 0)) ∧ (p = .pointer none ∨ p = .pointer (some ⟨g, 1, none⟩))
  own : w.ownsRowF B 5 1 v T.size (nums .u8 (bytesOf T))
  nil : T.size = 0 → v = .slice none 0 0
theorem Dk.slice {w : World} {B g : Nat} {v : Value} {room safe : Int} {T : ByteArray} (h : Dk w B g v room safe T) : ∃ A c, v = .slice A T.size c := by
  rcases h.own.2 with ⟨hv, h0⟩ | ⟨k, cap, cur, fz, hv, _⟩
  · exact ⟨none, 0, by rw [hv, h0]⟩
  · exact ⟨_, _, hv⟩
theorem Dk.ne {w : World} {B g : Nat} {v : Value} {room safe : Int} {T : ByteArray} (h : Dk w B g v room safe T) : v.ownBlock ≠ some g := by
  obtain ⟨p, hb, _⟩ := h.blk
  exact Lib.ownBlock_neF h.own hb (by decide)
theorem Dk.lt {w : World} {B g : Nat} {v : Value} {room safe : Int} {T : ByteArray} (h : Dk w B g v room safe T) : g < w.heap.size := by
  obtain ⟨p, hb, _⟩ := h.blk
  exact (Array.getElem?_eq_some_iff.1 hb).1
theorem ownF_move {w w' : World} {B n : Nat} {v : Value} {xs : List Value} (h : w.ownsRowF B 5 1 v n xs) (hm : ∀ k, v.ownBlock = some k → w'.heap[k]? = w.heap[k]?) : w'.ownsRowF B 5 1 v n xs := by
  obtain ⟨h1, h2⟩ := h
  refine ⟨h1, ?_⟩
  rcases h2 with h2 | ⟨k, cap, cur, fz, rfl, hb, hg, r⟩
  · exact .inl h2
  · exact .inr ⟨k, cap, cur, fz, rfl, hb, (hm k rfl).trans hg, r⟩
/-- What a disk leads to: its block, its buffer's. -/
def foot (g : Nat) (v : Value) (i : Nat) : Prop := i = g ∨ v.ownBlock = some i
theorem Dk.move {w w' : World} {B g : Nat} {v : Value} {room safe : Int} {T : ByteArray} (h : Dk w B g v room safe T) (hm : ∀ i, i < w.heap.size → foot g v i → w'.heap[i]? = w.heap[i]?) : Dk w' B g v room safe T := by
  obtain ⟨p, hb, hp⟩ := h.blk
  exact ⟨h.base, ⟨p, (hm g h.lt (.inl rfl)).trans hb, hp⟩, ownF_move h.own (fun k hk => hm k (h.own.lt k hk).2 (.inr hk)), h.nil⟩
theorem Dk.below {w w' : World} {B g : Nat} {v : Value} {room safe : Int} {T : ByteArray} (h : Dk w B g v room safe T) (hb : Below w.heap.size w w') : Dk w' B g v room safe T := h.move (fun i hi _ => hb.block i hi)
/-- What a call on the disk leaves: the world below B as it was; of w's blocks only the disk's own are written. -/
def Left (w w' : World) (B g : Nat) (v : Value) : Prop :=
  Below B w w' ∧ ∀ i, i < w.heap.size → ¬ foot g v i → w'.heap[i]? = w.heap[i]?
theorem Left.refl (w : World) (B g : Nat) (v : Value) : Left w w B g v := ⟨Below.refl B w, fun _ _ _ => rfl⟩
theorem len_dk {w : World} {B g : Nat} {v : Value} {room safe : Int} {T : ByteArray} (h : Dk w B g v room safe T) :
    Calls Try.prog 59 #[.pointer (some ⟨g, 1, none⟩)] w fun e w' => e = .returned (.int .i64 T.size) ∧ w' = w := by
  obtain ⟨p, hb, _⟩ := h.blk
  obtain ⟨A, c, rfl⟩ := h.slice
  exact len_calls g T.size c A _ _ _ w hb
theorem check_dk {w : World} {B g : Nat} {v : Value} {room safe : Int} {T : ByteArray} (h : Dk w B g v room safe T) :
    Calls Try.prog 66 #[.pointer (some ⟨g, 1, none⟩)] w fun e w' => e = .returned (.tuple #[]) ∧ w'.heap[g]? = some (.cells #[.int .i64 room, .pointer (some ⟨g, 1, none⟩), v, .int .i64 safe] 105 (0, 0)) ∧ (∀ i, i ≠ g → w'.heap[i]? = w.heap[i]?) ∧ Below B w w' := by
  obtain ⟨p, hb, hp⟩ := h.blk
  rcases hp with rfl | rfl
  · refine (check_fresh g _ _ _ w hb).mono ?_
    rintro e w' ⟨rfl, rfl⟩
    refine ⟨rfl, ?_, fun i hi => Below.heap_setCell _ _ _ _ hi, (Below.refl B w).setCell (p := ⟨g, 1, none⟩) h.base _⟩
    simp [World.setCell, Array.getElem?_modify, hb]
  · refine (check_used g _ _ _ w hb).mono ?_
    rintro e w' ⟨rfl, rfl⟩
    exact ⟨rfl, hb, fun _ _ => rfl, Below.refl B _⟩
theorem info5 : (Try.prog.info? 5).map (fun i => (i.zero, i.size, i.bytes)) = some (some (.int .u8 0), 1, 1) := by kernel_rfl
theorem bytesOf_app (s t : ByteArray) : bytesOf (s ++ t) = bytesOf s ++ bytesOf t := by
  unfold bytesOf
  rw [ByteArray.data_append]
  simp
theorem cells_bytes (s : ByteArray) : Lib.strCells s = nums .u8 (bytesOf s) := by simp [nums, bytesOf, Lib.strCells]
set_option maxHeartbeats 1000000 in
set_option maxRecDepth 100000 in
theorem write_dk {w : World} {B g : Nat} {v : Value} {room safe : Int} {T : ByteArray} (h : Dk w B g v room safe T) (s : ByteArray) (hlen : T.size + s.size ≤ 140737488355328) (hBw : B ≤ w.heap.size) :
    Calls Try.prog 60 #[.pointer (some ⟨g, 1, none⟩), .string s] w fun e w' => e = .returned (.tuple #[.int .i64 s.size, .nilIface]) ∧ ∃ v', Dk w' B g v' room safe (T ++ s) ∧ Left w w' B g v := by
  obtain ⟨i0, hi, hz0, hz1, hz2⟩ := info_parts info5
  have hC := Lib.hid (check_dk h)
  have HH := Lib.hid h
  have hlt := Lib.hid h.lt
  have hne := Lib.hid h.ne
  clear h
  go_enter Try.func60, Try.ntmps60
  go_wp2_with fail
  refine hC.out.mono ?_
  rintro e w1 ⟨rfl, hbk, hk1, hb1⟩
  have hown : w1.ownsRowF B 5 1 v T.size (nums .u8 (bytesOf T)) := ownF_move HH.out.own (fun k hk => hk1 k (fun e => hne.out (by rw [hk, e])))
  have c2 : w1.cell? ⟨g, 2, none⟩ = some v := (cells_at hbk 2).trans rfl
  have HB1 := Lib.hid hb1
  have HK1 := Lib.hid hk1
  have HBK := Lib.hid hbk
  have HO := Lib.hid hown
  obtain ⟨A, c, hv⟩ := HH.out.slice
  clear hb1 hk1 hbk hown
  subst hv
  go_wp2_with (at_builtin; refine Lib.wpList_append_own_stringF _ rfl _ _ 62 9 rfl B 5 i0 Try.underlying62 Try.underlying9 hi hz0 hz1 hz2 _ _ _ rfl HO.out s rfl ?c3 ?c4 ?c5 ?_)
  case c3 => unfold maxLen; omega
  case c4 => omega
  case c5 => have := HB1.out.size; omega
  intro v' w2 hown' hgrow hnil
  have hb2 : w2.heap[g]? = some (.cells #[.int .i64 room, .pointer (some ⟨g, 1, none⟩), .slice A T.size c, .int .i64 safe] 105 (0, 0)) := by
    rw [hgrow.block g (Nat.lt_of_lt_of_le hlt.out HB1.out.size) (fun e => hne.out e.symm)]
    exact HBK.out
  have d2 : w2.cell? ⟨g, 2, none⟩ = some (.slice A T.size c) := (cells_at hb2 2).trans rfl
  have f2 : w2.frozen? ⟨g, 2, none⟩ = false := fz_at hb2 2
  obtain ⟨A', n', c', rfl⟩ : ∃ A' n' c', v' = .slice A' n' c' := by
    rcases hown'.2 with ⟨hv, _⟩ | ⟨_, cap, _, _, hv, _⟩
    · exact ⟨_, _, _, hv⟩
    · exact ⟨_, _, _, hv⟩
  have HB2 := Lib.hid hb2
  have HO2 := Lib.hid hown'
  have HG2 := Lib.hid hgrow
  have HN2 := Lib.hid hnil
  clear hb2 hown' hgrow hnil c2
  go_wp2_with fail
  go_ret2
  refine ⟨rfl, .slice A' n' c', ⟨HH.out.base, ⟨_, by simp [World.setCell, Array.getElem?_modify, HB2.out], .inr rfl⟩, ?_, ?_⟩, ?_, ?_⟩
  · have h2 := ownF_move (w' := w2.setCell ⟨g, 2, none⟩ (.slice A' n' c')) HO2.out (fun k hk => Below.heap_setCell _ _ _ _ (fun e => Lib.ownBlock_neF HO2.out HB2.out (by decide) (by rw [hk]; exact congrArg some e)))
    rw [ByteArray.size_append, bytesOf_app, nums_append, ← cells_bytes s]
    exact h2
  · intro h0
    rw [ByteArray.size_append] at h0
    have hq := HN2.out
    have hz : ∀ x : ByteArray, x.size = 0 → x = ByteArray.empty := fun x hx => ByteArray.ext (Array.eq_empty_of_size_eq_zero hx)
    have h1 := HH.out.nil (by omega)
    injection h1 with h1 _ h2
    exact hq.2 ⟨⟨h1, hz T (by omega), h2⟩, hz s (by omega)⟩
  · exact (HB1.out.grown HG2.out (Nat.le_trans hBw HB1.out.size |> fun h => h) (fun k hk => (HH.out.own.lt k hk).1)).setCell (p := ⟨g, 2, none⟩) HH.out.base _
  · intro i hi hf
    rw [Below.heap_setCell _ _ _ _ (fun e => hf (.inl e)), HG2.out.block i (Nat.lt_of_lt_of_le hi HB1.out.size) (fun e => hf (.inr e.symm)), HK1.out i (fun e => hf (.inl e))]
theorem byteCells_data (T : ByteArray) : Lib.byteCells T.data.toList = nums .u8 (bytesOf T) := by simp [nums, bytesOf, Lib.byteCells]
theorem mixed : Try.prog.follows .mixedOrders = true := by kernel_rfl
theorem froze_own {w : World} {B k n cap : Nat} {xs : List Value} (h : w.ownsRowF B 5 1 (.slice (some ⟨k, 0, none⟩) n cap) n xs) : (w.freeze ⟨k, 0, none⟩ n).ownsRowF B 5 1 (.slice (some ⟨k, 0, none⟩) n cap) n xs := by
  unfold World.freeze
  split
  · exact h
  · rename_i hn0
    refine ⟨h.1, ?_⟩
    rcases h.2 with ⟨hv, _⟩ | ⟨g', cap', cur, fz, hv, hbg, hg, hfz, rest⟩
    · cases hv
    · injection hv with ha _ hcap
      injection ha with ha
      injection ha with hgg _ _
      subst hgg
      subst hcap
      obtain ⟨lo, hi⟩ := fz
      refine .inr ⟨k, cap, cur, (if lo == hi then (0, 0 + n) else (min lo 0, max hi (0 + n))), rfl, hbg, ?_, ?_, rest⟩
      · simp [Array.getElem?_modify, hg]
      · simp only at hfz
        split <;> simp <;> omega
theorem freeze_other (w : World) (k n i : Nat) (h : i ≠ k) : (w.freeze ⟨k, 0, none⟩ n).heap[i]? = w.heap[i]? := by
  unfold World.freeze
  split
  · rfl
  · simp only [Array.getElem?_modify]
    rw [if_neg (fun e => h e.symm)]
set_option maxHeartbeats 1000000 in
set_option maxRecDepth 100000 in
theorem string_dk {w : World} {B g : Nat} {v : Value} {room safe : Int} {T : ByteArray} (h : Dk w B g v room safe T) :
    Calls Try.prog 58 #[.pointer (some ⟨g, 1, none⟩)] w fun e w' => e = .returned (.string T) ∧ Dk w' B g v room safe T ∧ Left w w' B g v := by
  have mixed := mixed
  by_cases h0 : T.size = 0
  · have hv := h.nil h0
    have hT : T = ⟨#[]⟩ := by
      apply ByteArray.ext
      exact Array.eq_empty_of_size_eq_zero h0
    subst hv hT
    have hK : Dk w.drew B g (.slice none 0 0) room safe ⟨#[]⟩ := h.move (fun _ _ _ => rfl)
    have hL : Left w w.drew B g (.slice none 0 0) := ⟨(Below.refl B w).drew, fun _ _ _ => rfl⟩
    obtain ⟨p, hb, _⟩ := h.blk
    have c2 : w.drew.cell? ⟨g, 2, none⟩ = some (.slice none 0 0) := (cells_at (w := w.drew) hb 2).trans rfl
    have hUS : (Builtin.unsafeString_ #[118, 3] 9 #[.pointer none, .int .i64 0]).run Try.prog w.drew = .ok (.string .empty) w.drew := Lib.run_unsafeString_none w.drew _ _ _ none
    have hSD : (Builtin.unsafeSliceData_ #[62] 118 #[.slice none 0 0]).run Try.prog w.drew = .ok (.pointer none) w.drew := Lib.run_unsafeSliceData_nil w.drew _ _ _ _
    have HK := Lib.hid hK
    have HL := Lib.hid hL
    clear hK hL hb h h0
    go_enter Try.func58, Try.ntmps58
    go_wp2
    go_region_o
    all_goals (go_wp2; go_ret; exact ⟨rfl, HK.out, HL.out⟩)
  · obtain ⟨p, hb, hp⟩ := h.blk
    obtain ⟨k, cap, cur, fz, rfl, hbk, hk, hfz, hnc, hcm, hcs, htk⟩ : ∃ k cap cur fz, v = .slice (some ⟨k, 0, none⟩) T.size cap ∧ B ≤ k ∧ w.heap[k]? = some (.cells cur 5 fz) ∧ fz.2 ≤ T.size * 1 ∧ T.size ≤ cap ∧ cap ≤ maxLen ∧ cur.size = cap * 1 ∧ cur.toList.take (T.size * 1) = nums .u8 (bytesOf T) := by
      rcases h.own.2 with ⟨_, hz⟩ | ⟨k, cap, cur, fz, hv, r⟩
      · exact absurd hz h0
      · exact ⟨k, cap, cur, fz, hv, r⟩
    have hlT : T.data.toList.length = T.size := by rw [Array.length_toList]; rfl
    have c2 : w.drew.cell? ⟨g, 2, none⟩ = some (.slice (some ⟨k, 0, none⟩) T.size cap) := (cells_at (w := w.drew) hb 2).trans rfl
    have hSD : (Builtin.unsafeSliceData_ #[62] 118 #[.slice (some ⟨k, 0, none⟩) T.size cap]).run Try.prog w.drew = .ok (.pointer (some ⟨k, 0, none⟩)) w.drew := Lib.run_unsafeSliceData_row _ _ _ _ _ _ (by omega)
    have hUS : (Builtin.unsafeString_ #[118, 3] 9 #[.pointer (some ⟨k, 0, none⟩), .int .i64 T.size]).run Try.prog w.drew = .ok (.string T) (w.drew.freeze ⟨k, 0, none⟩ T.size) := by
      have hu := Lib.run_unsafeString_row (P := Try.prog) w.drew 118 3 9 5 Try.underlying118 (by kernel_rfl) k cur.size (by have hk' : w.drew.heap[k]? = some (.cells cur 5 fz) := hk; simp [World.shape?, hk']) T.data.toList (by intro e; rw [e] at hlT; exact h0 hlT.symm) (by omega) (by unfold maxLen at hcm; omega) (by
        intro j x hx
        refine h.own.cells (g := k) rfl j (.int .u8 x.toNat) ?_
        rw [← byteCells_data]
        simp [Lib.byteCells, hx])
      rw [hlT] at hu
      exact hu
    have hne : k ≠ g := fun e => h.ne (by rw [e]; rfl)
    have hK : Dk (w.drew.freeze ⟨k, 0, none⟩ T.size) B g (.slice (some ⟨k, 0, none⟩) T.size cap) room safe T :=
      ⟨h.base, ⟨p, (freeze_other _ _ _ _ (fun e => hne e.symm)).trans hb, hp⟩, froze_own (w := w.drew) h.own, h.nil⟩
    have hL : Left w (w.drew.freeze ⟨k, 0, none⟩ T.size) B g (.slice (some ⟨k, 0, none⟩) T.size cap) :=
      ⟨Lib.below_freeze (Below.refl B w).drew (p := ⟨k, 0, none⟩) hbk _, fun i _ hf => freeze_other _ _ _ _ (fun e => hf (.inr (by rw [e]; rfl)))⟩
    have HK := Lib.hid hK
    have HL := Lib.hid hL
    clear hK hL hb hp h hk hfz hnc hcm hcs htk hlT hne h0
    go_enter Try.func58, Try.ntmps58
    go_wp2
    go_region_o
    all_goals (go_wp2; go_ret; exact ⟨rfl, HK.out, HL.out⟩)
end Go.Proofs.Ytcoodlncjnekoaa.D
