import Derived.Test.YtcoodlncjnekoaaDm
import Derived.Deep.RegionHeld3
import Derived.Test.YtcoodlncjnekoaaProg
import Derived.Below
import Derived.Deep.Draws
import Derived.Deep.AppendLies
import Derived.Maps.AppendAt
import Derived.OwnWalk
import Derived.Laws.BytesArg
import Derived.Laws.MakeOwn
import Derived.Laws.OwnMore
import Derived.Deep.OwnRows
import Derived.Tactics
import Derived.Lib.ConvBytes
import Derived.Laws.Slices
import Derived.WalkKit
import Derived.KernelRfl
import Derived.RowKit3
import Derived.Deep.LoopGhost
import Derived.Deep.QuietTactic
import Derived.BigQuiet
import Derived.WideLaws
import Derived.Deep.DeepCutAuto
import Derived.Deep.CutBlock
import Derived.Laws.Rows
import Derived.Lib.AppendStr
import Derived.ArgAppend
import Derived.Laws.IdiomCopy
import Derived.OrdersHeld
import Derived.Laws.BitsLemmas
import Derived.RowKit
import Derived.Test.YtcoodlncjnekoaaWWords
import Derived.Test.YtcoodlncjnekoaaWLast
import Derived.Test.YtcoodlncjnekoaaWTab
import Derived.Test.YtcoodlncjnekoaaWKept
import Derived.Test.YtcoodlncjnekoaaWEqStruct
import Derived.Test.YtcoodlncjnekoaaWGuard
import Derived.Test.YtcoodlncjnekoaaWMore
import Derived.Test.YtcoodlncjnekoaaWMake
/- A disk's Cut and Open. Conditions: each theorem's own. -/
namespace Go.Proofs.Ytcoodlncjnekoaa.D
open Go.RowKit Go.Proofs.YtcoodlncjnekoaaW.PrintWords
set_option linter.unusedVariables false
theorem Left.trans {w w1 w2 : World} {B g : Nat} {v v1 : Value} (h : Left w w1 B g v) (h2 : Left w1 w2 B g v1) (hv : v1.ownBlock = v.ownBlock) : Left w w2 B g v :=
  ⟨h.1.trans h2.1, fun i hi hf => (h2.2 i (Nat.lt_of_lt_of_le hi h.1.size) (fun hf2 => hf (hf2.imp id (fun e => hv ▸ e)))).trans (h.2 i hi hf)⟩
structure CutS (w W : World) (B g : Nat) (v : Value) (room safe : Int) (T : ByteArray) : Prop where
  dk : Dk W B g v room safe T
  left : Left w W B g v
theorem CutS.drew {w W : World} {B g : Nat} {v : Value} {room safe : Int} {T : ByteArray} (h : CutS w W B g v room safe T) : CutS w W.drew B g v room safe T := ⟨h.dk.move (fun _ _ _ => rfl), ⟨h.left.1.drew, h.left.2⟩⟩
theorem CutS.step {w W W' : World} {B g : Nat} {v : Value} {room safe : Int} {T : ByteArray} (h : CutS w W B g v room safe T) (h1 : Dk W' B g v room safe T ∧ Left W W' B g v) : CutS w W' B g v room safe T := ⟨h1.1, h.left.trans h1.2 rfl⟩
theorem Dk.lower {w : World} {B B' g : Nat} {v : Value} {room safe : Int} {T : ByteArray} (h : Dk w B g v room safe T) (hb : B' ≤ B) : Dk w B' g v room safe T := by
  refine ⟨Nat.le_trans hb h.base, h.blk, ⟨h.own.1, ?_⟩, h.nil⟩
  rcases h.own.2 with h2 | ⟨k, cap, cur, fz, hv, hk, r⟩
  · exact .inl h2
  · exact .inr ⟨k, cap, cur, fz, hv, Nat.le_trans hb hk, r⟩
theorem nil_app (s : ByteArray) : (⟨#[]⟩ : ByteArray) ++ s = s := by
  apply ByteArray.ext
  rw [ByteArray.data_append]
  simp
theorem open_bad (s : ByteArray) (room : Int) (w : World) (h : room < 0 ∨ 1048576 < room) :
    Calls Try.prog 30 #[.string s, .int .i64 room] w fun e w' => e = .returned (.tuple #[.pointer none, .int .i64 3]) ∧ Below w.heap.size w w' := by
  have HN := Lib.hid (new_dk room w)
  have hn : ¬ (0 ≤ room ∧ room ≤ 1048576) := by omega
  simp only [hn, if_false] at HN
  clear h hn
  go_enter Try.func30, Try.ntmps30
  go_wp2_with fail
  refine HN.out.mono ?_
  rintro e w' ⟨rfl, rfl⟩
  go_wp2_with fail
  go_ret2
  exact ⟨rfl, Below.refl _ _⟩
theorem open_full (s : ByteArray) (room : Int) (w : World) (h0 : 0 ≤ room) (h1 : room ≤ 1048576) (hs : s.size ≤ 140737488351232) (hf : room < (s.size : Int)) :
    Calls Try.prog 30 #[.string s, .int .i64 room] w fun e w' => e = .returned (.tuple #[.pointer none, .int .i64 210]) ∧ Below w.heap.size w w' := by
  have HN := Lib.hid (new_dk room w)
  have hn : (0 ≤ room ∧ room ≤ 1048576) := ⟨h0, h1⟩
  simp only [hn, if_true, and_self] at HN
  have HA := Lib.hid (fun (w1 : World) (g : Nat) (h : Dk w1 w.heap.size g (.slice none 0 0) room 0 ⟨#[]⟩) (hw : w.heap.size ≤ w1.heap.size) => append_dk h s hs h1 h0 hw)
  have hn2 : ¬ (s.size : Int) ≤ room - (((⟨#[]⟩ : ByteArray).size : Nat) : Int) := by show ¬ (s.size : Int) ≤ room - ((0 : Nat) : Int); omega
  simp only [hn2, if_false] at HA
  clear h0 h1 hs hf hn hn2
  go_enter Try.func30, Try.ntmps30
  go_wp2_with fail
  refine HN.out.mono ?_
  rintro e w1 ⟨g, rfl, hd, hb, hg⟩
  have HD := Lib.hid hd
  have HB := Lib.hid hb
  clear hd hb hg
  go_wp2_with fail
  refine (HA.out _ _ HD.out HB.out.size).mono ?_
  rintro e w2 ⟨rfl, _, hl⟩
  have HL := Lib.hid hl
  clear hl
  go_wp2_with fail
  go_ret2
  exact ⟨rfl, HB.out.trans HL.out.1⟩
theorem open_dk (s : ByteArray) (room : Int) (w : World) (h0 : 0 ≤ room) (h1 : room ≤ 1048576) (hf : (s.size : Int) ≤ room) :
    Calls Try.prog 30 #[.string s, .int .i64 room] w fun e w' => ∃ g v, e = .returned (.tuple #[.pointer (some ⟨g, 0, none⟩), .int .i64 0]) ∧ Dk w' w.heap.size g v room s.size s ∧ Below w.heap.size w w' := by
  have HN := Lib.hid (new_dk room w)
  have hn : (0 ≤ room ∧ room ≤ 1048576) := ⟨h0, h1⟩
  simp only [hn, if_true, and_self] at HN
  have HA := Lib.hid (fun (w1 : World) (g : Nat) (h : Dk w1 w.heap.size g (.slice none 0 0) room 0 ⟨#[]⟩) (hw : w.heap.size ≤ w1.heap.size) => append_dk h s (by omega) h1 h0 hw)
  have hn2 : (s.size : Int) ≤ room - (((⟨#[]⟩ : ByteArray).size : Nat) : Int) := by show (s.size : Int) ≤ room - ((0 : Nat) : Int); omega
  simp only [hn2, if_true, nil_app] at HA
  clear h0 h1 hf hn hn2
  go_enter Try.func30, Try.ntmps30
  go_wp2_with fail
  refine HN.out.mono ?_
  rintro e w1 ⟨g, rfl, hd, hb, hg⟩
  have HD := Lib.hid hd
  have HB := Lib.hid hb
  clear hd hb hg
  go_wp2_with fail
  refine (HA.out _ _ HD.out HB.out.size).mono ?_
  rintro e w2 ⟨rfl, v, hd2, hl⟩
  have HD2 := Lib.hid hd2
  have HL := Lib.hid hl
  clear hd2 hl
  go_wp2_with fail
  refine (sync_dk HD2.out).mono ?_
  rintro e w3 ⟨rfl, hd3, hl3⟩
  have HD3 := Lib.hid hd3
  have HL3 := Lib.hid hl3
  clear hd3 hl3
  go_wp2_with fail
  go_ret2
  exact ⟨g, v, rfl, HD3.out, (HB.out.trans HL.out.1).trans HL3.out.1⟩
end Go.Proofs.Ytcoodlncjnekoaa.D
-- Written by a program of this session (mk.py over the kit's print, turned for floats and for contracts given by hand). Not trusted: Lean checks it.
namespace Go.Proofs.Ytcoodlncjnekoaa.G
open Go.RowKit Go.Proofs.YtcoodlncjnekoaaW.PrintWords Go.Proofs.YtcoodlncjnekoaaW.PrintLast Go.Proofs.YtcoodlncjnekoaaW.PrintMore
attribute [local go_sem] max2_int min2_int max_two min_two max_three min_three max_four min_four   -- for this text's walks alone
attribute [local go_sem] flt_eql flt_neq flt_lss flt_leq flt_gtr flt_geq
set_option linter.unusedVariables false
set_option linter.unusedSimpArgs false

def errW : Option Int → Value
  | none => .nilIface
  | some c => .iface 0 (.int .i64 c)
theorem errW_none : errW none = .nilIface := rfl
theorem errW_some (c : Int) : errW (some c) = .iface 0 (.int .i64 c) := rfl

-- the values' own types
/-! #### struct type 46 -/
structure S46 where
  f0 : Int
  f1 : Bool
  f2 : ByteArray
/-! #### struct type 50 -/
structure S50 where
  f0 : Int
  f1 : Int
  f2 : ByteArray
  f3 : Int
end Go.Proofs.Ytcoodlncjnekoaa.G
/- DiskKeeps: the walk. Conditions: none. -/
namespace Go.Proofs.Ytcoodlncjnekoaa.D
open Go.RowKit Go.Proofs.YtcoodlncjnekoaaW.PrintWords Go.Proofs.Ytcoodlncjnekoaa.G
set_option linter.unusedVariables false
theorem Left.keep {w w' : World} {B g k : Nat} {v : Value} {room safe : Int} {T : ByteArray} {cs : Array Value} {t : TypeId} {fr : Nat × Nat} (hl : Left w w' B g v) (hd : Dk w B g v room safe T) (hk : w.heap[k]? = some (.cells cs t fr)) (h1 : t ≠ 105) (h2 : t ≠ 5) : w'.heap[k]? = some (.cells cs t fr) := by
  refine (hl.2 k (Array.getElem?_eq_some_iff.1 hk).1 ?_).trans hk
  rintro (rfl | he)
  · obtain ⟨p, hb, _⟩ := hd.blk
    rw [hk] at hb
    injection hb with hb
    injection hb with _ hb _
    exact h1 hb
  · exact Lib.ownBlock_neF hd.own hk h2 he
end Go.Proofs.Ytcoodlncjnekoaa.D
/- DiskOutlives: the walk. Conditions: none. -/
namespace Go.Proofs.Ytcoodlncjnekoaa.D
open Go.RowKit Go.Proofs.YtcoodlncjnekoaaW.PrintWords Go.Proofs.Ytcoodlncjnekoaa.G
set_option linter.unusedVariables false
theorem foot_lt {w : World} {B g i : Nat} {v : Value} {room safe : Int} {T : ByteArray} (h : Dk w B g v room safe T) (hf : foot g v i) : i < w.heap.size := by
  rcases hf with rfl | hf
  · exact h.lt
  · exact (h.own.lt i hf).2
theorem below_weak {B B' : Nat} {a w : World} (h : Below B' a w) (hb : B ≤ B') : Below B a w := ⟨h.os, h.tape, h.output, h.size, fun k hk => h.block k (by omega)⟩
end Go.Proofs.Ytcoodlncjnekoaa.D
