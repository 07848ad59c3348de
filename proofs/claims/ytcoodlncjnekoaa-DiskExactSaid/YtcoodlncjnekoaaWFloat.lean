/- Floats for the printed walks: a float64 is told by its bits; the six comparisons are Bool functions of the bits. No condition. -/
import Derived.Test.YtcoodlncjnekoaaWWords
import Derived.Test.YtcoodlncjnekoaaWFoot
import Derived.Test.YtcoodlncjnekoaaWEqStruct
namespace Go.Proofs.YtcoodlncjnekoaaW.PrintWords
open Go.RowKit
def feq (a b : Nat) : Bool := Op.floatEq .f64 a b
def flt (a b : Nat) : Bool := FloatKind.f64.format.order a b == some .lt
def fgt (a b : Nat) : Bool := FloatKind.f64.format.order a b == some .gt
def fle (a b : Nat) : Bool := FloatKind.f64.format.order a b == some .lt || FloatKind.f64.format.order a b == some .eq
def fge (a b : Nat) : Bool := FloatKind.f64.format.order a b == some .gt || FloatKind.f64.format.order a b == some .eq
theorem flt_eql (t : TypeId) (a b : Nat) : binOp .eql t (.float .f64 a) (.float .f64 b) = pure (.bool (feq a b)) := by simp [binOp, Op.floatCmp, feq, Op.floatEq]
theorem flt_neq (t : TypeId) (a b : Nat) : binOp .neq t (.float .f64 a) (.float .f64 b) = pure (.bool (!feq a b)) := by simp [binOp, Op.floatCmp, feq, Op.floatEq, bne]
theorem flt_lss (t : TypeId) (a b : Nat) : binOp .lss t (.float .f64 a) (.float .f64 b) = pure (.bool (flt a b)) := by simp [binOp, Op.floatCmp, flt]
theorem flt_leq (t : TypeId) (a b : Nat) : binOp .leq t (.float .f64 a) (.float .f64 b) = pure (.bool (fle a b)) := by simp [binOp, Op.floatCmp, fle]
theorem flt_gtr (t : TypeId) (a b : Nat) : binOp .gtr t (.float .f64 a) (.float .f64 b) = pure (.bool (fgt a b)) := by simp [binOp, Op.floatCmp, fgt]
theorem flt_geq (t : TypeId) (a b : Nat) : binOp .geq t (.float .f64 a) (.float .f64 b) = pure (.bool (fge a b)) := by simp [binOp, Op.floatCmp, fge]
theorem run_equalIn_flt {P : Program} {w : World} {d : Nat} {t : TypeId} {a b : Nat} (h : P.underlying t = some (.float .f64)) : (Op.equalIn (d + 1) t (.float .f64 a) (.float .f64 b)).run P w = .ok (feq a b) w := by
  unfold Op.equalIn
  simp [run_underlying h, feq]
namespace Kd
def float : Kd Nat := scalar (Value.float .f64) (fun _ => rfl)
theorem heap_float : Heap Kd.float := ⟨fun _ h => h⟩
theorem at_float {w : World} {A : Option Addr} {n : Nat} {xs : List Nat} (h : Kd.float.C w A n xs) (i : Int) (h0 : 0 ≤ i) (h1 : i < n) : ∃ ad, A = some ad ∧ w.cell? (ad.add i.toNat) = some (.float .f64 (rdOf (0 : Nat) xs i)) :=
  ReadsOf.at_ (reads_of_C (enc := Value.float .f64) (d := (0 : Nat)) (h1 := fun _ => rfl) h) i h0 h1
end Kd
theorem run_store_float {P : Program} {w : World} {a : Addr} {m : Mode} (k : FloatKind) (n : Nat) : (store a (.float k n) m).run P w = stored P w a (.float k n) m := run_store P w a _ m rfl
end Go.Proofs.YtcoodlncjnekoaaW.PrintWords
