/- DiskKeeps: the walk. Conditions: none. -/
import Derived.Test.YtcoodlncjnekoaaDf
import Derived.Test.YtcoodlncjnekoaaG1
namespace Go.Proofs.Ytcoodlncjnekoaa.D
open Go.RowKit Go.Proofs.YtcoodlncjnekoaaW.PrintWords Go.Proofs.Ytcoodlncjnekoaa.G
set_option linter.unusedVariables false
theorem Left.keep {w w' : World} {B g k : Nat} {v : Value} {room safe : Int} {T : ByteArray} {cs : Array Value} {t : TypeId} {fr : Nat × Nat} (hl : Left w w' B g v) (hd : Dk w B g v room safe T) (hk : w.heap[k]? = some (.cells cs t fr)) (h1 : t ≠ 105) (h2 : t ≠ 5) : w'.heap[k]? = some (.cells cs t fr) := by
  refine (hl.2 k (Array.getElem?_eq_some_iff.1 hk).1 ?_).trans hk
  rintro (rfl | he)
  · obtain ⟨p, hb, _⟩ := hd.blk
    rw [hk] at hb
    injection hb with hb
    injection hb with _ hb _
    exact h1 hb
  · exact Lib.ownBlock_neF hd.own hk h2 he
def ex (A : ByteArray) (i : Nat) : ByteArray := A.extract 0 i
theorem bt_inj {s t : ByteArray} (h : bytesOf s = bytesOf t) : s = t := by
  have e : ∀ x : ByteArray, strOfNums (bytesOf x) = x := fun x => by
    apply ByteArray.ext
    apply Array.ext'
    have hf : ((fun n : Int => UInt8.ofNat n.toNat) ∘ fun b : UInt8 => (b.toNat : Int)) = id := by funext b; simp
    simp [strOfNums, bytesOf, hf]
  rw [← e s, h, e]
theorem bytes_ex (A : ByteArray) (i : Nat) : bytesOf (ex A i) = (bytesOf A).take i := by
  unfold ex bytesOf
  rw [ByteArray.data_extract, Array.toList_extract, List.extract_eq_take_drop, List.drop_zero, Nat.sub_zero, List.map_take]
theorem ex_size (A : ByteArray) (i : Nat) (h : i ≤ A.size) : (ex A i).size = i := by
  rw [← bytesOf_length, bytes_ex, List.length_take, bytesOf_length]
  omega
theorem ex_all (A : ByteArray) : ex A A.size = A := bt_inj (by rw [bytes_ex, List.take_of_length_le (by rw [bytesOf_length]; exact Nat.le_refl _)])
theorem ex_ex (A : ByteArray) (i j : Nat) (h : i ≤ j) : ex (ex A j) i = ex A i := bt_inj (by rw [bytes_ex, bytes_ex, bytes_ex, List.take_take, Nat.min_eq_left h])
theorem ex_app (A t : ByteArray) (i : Nat) (h : i ≤ A.size) : ex (A ++ t) i = ex A i := bt_inj (by rw [bytes_ex, bytes_ex, bytesOf_app, List.take_append_of_le_length (by rw [bytesOf_length]; exact h)])
theorem begins_calls (A : ByteArray) (i j : Nat) (h : i ≤ j) (hj : j ≤ A.size) (w : World) : Calls Try.prog 33 #[.string (ex A i), .string (ex A j)] w fun e w' => e = .returned (.bool true) ∧ Drawn0 w w' := by
  refine gatehouselaw21_begins.calls (ex A i) (ex A j) true w ?_
  unfold gatehouselaw21_begins.f
  rw [ex_size A i (by omega), ex_size A j hj, if_pos (by omega), if_pos (by omega), Int.toNat_natCast]
  have : (ex A j).extract 0 i = ex A i := ex_ex A i j h
  rw [this, beq_self_eq_true]
theorem cut_ex {w : World} {B g : Nat} {v : Value} {room : Int} {s : Nat} {T : ByteArray} (h : Dk w B g v room s T) (keep : Int) (h1 : s ≤ T.size) (hT : T.size ≤ 1048576) :
    Calls Try.prog 28 #[.pointer (some ⟨g, 0, none⟩), .int .i64 keep] w fun e w' => e = .returned (.string (ex T (cutN T s keep).toNat)) ∧ Dk w' B g v room s T ∧ Left w w' B g v := cut_dk h keep (by omega) (by omega) hT
end Go.Proofs.Ytcoodlncjnekoaa.D
