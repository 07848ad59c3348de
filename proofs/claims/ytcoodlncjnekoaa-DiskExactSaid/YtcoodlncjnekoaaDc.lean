/- A disk's Cut and Open. Conditions: each theorem's own. -/
import Derived.Test.YtcoodlncjnekoaaDm
import Derived.Deep.RegionHeld3
namespace Go.Proofs.Ytcoodlncjnekoaa.D
open Go.RowKit Go.Proofs.YtcoodlncjnekoaaW.PrintWords
set_option linter.unusedVariables false
theorem Left.trans {w w1 w2 : World} {B g : Nat} {v v1 : Value} (h : Left w w1 B g v) (h2 : Left w1 w2 B g v1) (hv : v1.ownBlock = v.ownBlock) : Left w w2 B g v :=
  ⟨h.1.trans h2.1, fun i hi hf => (h2.2 i (Nat.lt_of_lt_of_le hi h.1.size) (fun hf2 => hf (hf2.imp id (fun e => hv ▸ e)))).trans (h.2 i hi hf)⟩
theorem Dk.cell3 {w : World} {B g : Nat} {v : Value} {room safe : Int} {T : ByteArray} (h : Dk w B g v room safe T) : w.cell? ⟨g, 3, none⟩ = some (.int .i64 safe) := by
  obtain ⟨p, hb, _⟩ := h.blk
  exact (cells_at hb 3).trans rfl
structure CutS (w W : World) (B g : Nat) (v : Value) (room safe : Int) (T : ByteArray) : Prop where
  dk : Dk W B g v room safe T
  left : Left w W B g v
theorem CutS.drew {w W : World} {B g : Nat} {v : Value} {room safe : Int} {T : ByteArray} (h : CutS w W B g v room safe T) : CutS w W.drew B g v room safe T := ⟨h.dk.move (fun _ _ _ => rfl), ⟨h.left.1.drew, h.left.2⟩⟩
theorem CutS.step {w W W' : World} {B g : Nat} {v : Value} {room safe : Int} {T : ByteArray} (h : CutS w W B g v room safe T) (h1 : Dk W' B g v room safe T ∧ Left W W' B g v) : CutS w W' B g v room safe T := ⟨h1.1, h.left.trans h1.2 rfl⟩
/-- How many bytes a cut leaves. -/
def cutN (T : ByteArray) (safe keep : Int) : Int := safe + min (max keep 0) (T.size - safe)
theorem cutN_range (T : ByteArray) (safe keep : Int) (h0 : 0 ≤ safe) (h1 : safe ≤ T.size) : safe ≤ cutN T safe keep ∧ cutN T safe keep ≤ T.size := by
  unfold cutN
  omega
set_option maxHeartbeats 1000000 in
set_option maxRecDepth 100000 in
theorem cut_dk {w : World} {B g : Nat} {v : Value} {room safe : Int} {T : ByteArray} (h : Dk w B g v room safe T) (keep : Int) (h0 : 0 ≤ safe) (h1 : safe ≤ T.size) (hT : T.size ≤ 1048576) :
    Calls Try.prog 28 #[.pointer (some ⟨g, 0, none⟩), .int .i64 keep] w fun e w' => e = .returned (.string (T.extract 0 (cutN T safe keep).toNat)) ∧ Dk w' B g v room safe T ∧ Left w w' B g v := by
  have mixed := mixed
  have c3 := h.cell3
  have hS : CutS w w B g v room safe T := ⟨h, Left.refl w B g v⟩
  have hS' := hS.drew
  obtain ⟨r1, r2⟩ := cutN_range T safe keep h0 h1
  obtain ⟨N, hN⟩ : ∃ N, N = cutN T safe keep := ⟨_, rfl⟩
  have hv1 : IntKind.i64.wrap ((T.size : Int) - safe) = (T.size : Int) - safe := by rw [IntKind.wrap_i64]; omega
  have hv2 : IntKind.i64.wrap (safe + min (max keep 0) ((T.size : Int) - safe)) = N := by
    rw [hN]
    show IntKind.i64.wrap (cutN T safe keep) = cutN T safe keep
    rw [IntKind.wrap_i64]
    omega
  rw [← hN] at r1 r2 ⊢
  have hN0 : (0 : Int) ≤ N := by omega
  clear h hN r1 h0 h1 hT
  go_enter Try.func28, Try.ntmps28
  go_wp2_with fail
  go_region_held3 (fun w' => w'.cell? ⟨g, 3, none⟩ = some (.int .i64 safe) ∧ CutS w w' B g v room safe T) (first | exact ⟨c3, hS'⟩ | exact ⟨hq3, hq⟩ | (constructor <;> assumption) | go_keep)
    (first | (go_at_call 24; refine (bytes_dk (B := B) (g := g) (v := v) (room := room) (safe := safe) (T := T) (CutS.dk (w := w) (by first | exact And.right (by assumption) | exact hS'))).mono ?_; rintro e w' ⟨rfl, hd⟩; have hq := CutS.step (w := w) (by first | exact And.right (by assumption) | exact hS') hd; have hq3 := hq.dk.cell3) | (go_at_call 59; refine (len_dk (B := B) (g := g) (v := v) (room := room) (safe := safe) (T := T) (CutS.dk (w := w) (by first | exact And.right (by assumption) | exact hS'))).mono ?_; rintro e w' ⟨rfl, rfl⟩))
  all_goals (rename_i hh; have HD := Lib.hid hh.2; clear hh; go_wp2_with fail; go_ret; exact ⟨rfl, HD.out.dk, HD.out.left⟩)
theorem Dk.lower {w : World} {B B' g : Nat} {v : Value} {room safe : Int} {T : ByteArray} (h : Dk w B g v room safe T) (hb : B' ≤ B) : Dk w B' g v room safe T := by
  refine ⟨Nat.le_trans hb h.base, h.blk, ⟨h.own.1, ?_⟩, h.nil⟩
  rcases h.own.2 with h2 | ⟨k, cap, cur, fz, hv, hk, r⟩
  · exact .inl h2
  · exact .inr ⟨k, cap, cur, fz, hv, Nat.le_trans hb hk, r⟩
theorem nil_app (s : ByteArray) : (⟨#[]⟩ : ByteArray) ++ s = s := by
  apply ByteArray.ext
  rw [ByteArray.data_append]
  simp
theorem open_bad (s : ByteArray) (room : Int) (w : World) (h : room < 0 ∨ 1048576 < room) :
    Calls Try.prog 30 #[.string s, .int .i64 room] w fun e w' => e = .returned (.tuple #[.pointer none, .int .i64 3]) ∧ Below w.heap.size w w' := by
  have HN := Lib.hid (new_dk room w)
  have hn : ¬ (0 ≤ room ∧ room ≤ 1048576) := by omega
  simp only [hn, if_false] at HN
  clear h hn
  go_enter Try.func30, Try.ntmps30
  go_wp2_with fail
  refine HN.out.mono ?_
  rintro e w' ⟨rfl, rfl⟩
  go_wp2_with fail
  go_ret2
  exact ⟨rfl, Below.refl _ _⟩
theorem open_full (s : ByteArray) (room : Int) (w : World) (h0 : 0 ≤ room) (h1 : room ≤ 1048576) (hs : s.size ≤ 140737488351232) (hf : room < (s.size : Int)) :
    Calls Try.prog 30 #[.string s, .int .i64 room] w fun e w' => e = .returned (.tuple #[.pointer none, .int .i64 210]) ∧ Below w.heap.size w w' := by
  have HN := Lib.hid (new_dk room w)
  have hn : (0 ≤ room ∧ room ≤ 1048576) := ⟨h0, h1⟩
  simp only [hn, if_true, and_self] at HN
  have HA := Lib.hid (fun (w1 : World) (g : Nat) (h : Dk w1 w.heap.size g (.slice none 0 0) room 0 ⟨#[]⟩) (hw : w.heap.size ≤ w1.heap.size) => append_dk h s hs h1 h0 hw)
  have hn2 : ¬ (s.size : Int) ≤ room - (((⟨#[]⟩ : ByteArray).size : Nat) : Int) := by show ¬ (s.size : Int) ≤ room - ((0 : Nat) : Int); omega
  simp only [hn2, if_false] at HA
  clear h0 h1 hs hf hn hn2
  go_enter Try.func30, Try.ntmps30
  go_wp2_with fail
  refine HN.out.mono ?_
  rintro e w1 ⟨g, rfl, hd, hb, hg⟩
  have HD := Lib.hid hd
  have HB := Lib.hid hb
  clear hd hb hg
  go_wp2_with fail
  refine (HA.out _ _ HD.out HB.out.size).mono ?_
  rintro e w2 ⟨rfl, _, hl⟩
  have HL := Lib.hid hl
  clear hl
  go_wp2_with fail
  go_ret2
  exact ⟨rfl, HB.out.trans HL.out.1⟩
theorem open_dk (s : ByteArray) (room : Int) (w : World) (h0 : 0 ≤ room) (h1 : room ≤ 1048576) (hf : (s.size : Int) ≤ room) :
    Calls Try.prog 30 #[.string s, .int .i64 room] w fun e w' => ∃ g v, e = .returned (.tuple #[.pointer (some ⟨g, 0, none⟩), .int .i64 0]) ∧ Dk w' w.heap.size g v room s.size s ∧ Below w.heap.size w w' := by
  have HN := Lib.hid (new_dk room w)
  have hn : (0 ≤ room ∧ room ≤ 1048576) := ⟨h0, h1⟩
  simp only [hn, if_true, and_self] at HN
  have HA := Lib.hid (fun (w1 : World) (g : Nat) (h : Dk w1 w.heap.size g (.slice none 0 0) room 0 ⟨#[]⟩) (hw : w.heap.size ≤ w1.heap.size) => append_dk h s (by omega) h1 h0 hw)
  have hn2 : (s.size : Int) ≤ room - (((⟨#[]⟩ : ByteArray).size : Nat) : Int) := by show (s.size : Int) ≤ room - ((0 : Nat) : Int); omega
  simp only [hn2, if_true, nil_app] at HA
  clear h0 h1 hf hn hn2
  go_enter Try.func30, Try.ntmps30
  go_wp2_with fail
  refine HN.out.mono ?_
  rintro e w1 ⟨g, rfl, hd, hb, hg⟩
  have HD := Lib.hid hd
  have HB := Lib.hid hb
  clear hd hb hg
  go_wp2_with fail
  refine (HA.out _ _ HD.out HB.out.size).mono ?_
  rintro e w2 ⟨rfl, v, hd2, hl⟩
  have HD2 := Lib.hid hd2
  have HL := Lib.hid hl
  clear hd2 hl
  go_wp2_with fail
  refine (sync_dk HD2.out).mono ?_
  rintro e w3 ⟨rfl, hd3, hl3⟩
  have HD3 := Lib.hid hd3
  have HL3 := Lib.hid hl3
  clear hd3 hl3
  go_wp2_with fail
  go_ret2
  exact ⟨g, v, rfl, HD3.out, (HB.out.trans HL.out.1).trans HL3.out.1⟩
end Go.Proofs.Ytcoodlncjnekoaa.D
