/-
  No cell of these rows narrows 'for every input' (looked for: loops, veiled, ifaces, maps, wideKeys, modest, calm, conditions, laid).
  DERIVED. THE GIVEN ROWS OF THIS SEAT. 9 by the template 'for every input the law returns true; each argument reads behind the call as it read before'; 0 by the template 'total and deterministic' (their statements: YteefneemmdfncaaTotals.lean).
  GIVEN WITH THE SEED: the statements are not yours to turn. If you find one false, say at which input.
  Laid BY PROGRAM, IN A SANDBOX (cutbox-rows.mjs): the forced cells as the released guide's own fill.sh prints them over the translation 0f169f0ce335655d… (all of the seat's roots in one cut). By AI agents, Wed Nov 11 2026. No macro, syntax, notation, axiom, sorry.
-/
import Derived.Test.YteefneemmdfncaaChecked
import GoSem.Claim
import GoSem.ClaimJoined
import GoSem.ClaimMapViews
import Derived.JoinedTies
import Derived.KernelRfl
namespace Go.Proofs.Yteefneemmdfncaa
/- THE CELL 'sum', in the pinned program and in every row, IS THE sha256 OF THE DUMP (.gsa) THAT YteefneemmdfncaaProg.lean LOADS. Nothing in Lean hashes anything: it is a label: what it is worth is what the hold of that sum in a sandbox is worth. -/
noncomputable def Try.pinned : Pinned := { name := "yteefneemmdfncaa", sum := "0f169f0ce335655daa1034979a7cec53f101c8c69dc1034898e8c06cc4995f14", checked := Try.checked }
namespace Rows
def none {H : Type} : Left H := { results := [], args := [] }

/-- 'gatehouselaw10.WhyWho': WHATEVER THE INPUT: true; the input reads as it did. -/
def whyWhoSpec : ChangeSpec := { name := "whyWho", fn := fun _ => fun
  | [d1, d2, d3] => { results := [.lit (.bool true)], args := [d1, d2, d3] }
  | _ => none }
def whyWhoRow : OpenClaim := { program := "yteefneemmdfncaa", sum := "0f169f0ce335655daa1034979a7cec53f101c8c69dc1034898e8c06cc4995f14", func := "gatehouse/gatehouselaw10.WhyWho", spec := "whyWho", unfollowed := true, recurses := true, plainKeys := false, apart := false }
def WhyWhoSaid : Prop := whyWhoRow.holds Try.pinned (OpenSpec.ofChange whyWhoSpec)

/-- ITS FALSE NEIGHBOUR: 'it returns false'. Refute it at one input. -/
def whyWhoWrong : ChangeSpec := { name := "whyWho", fn := fun _ => fun
  | [d1, d2, d3] => { results := [.lit (.bool false)], args := [d1, d2, d3] }
  | _ => none }
def WhyWhoWrongFalsely : Prop := whyWhoRow.holds Try.pinned (OpenSpec.ofChange whyWhoWrong)

/-- 'gatehouselaw10.WhyExplain': WHATEVER THE INPUT: true; the input reads as it did. -/
def whyExplainSpec : ChangeSpec := { name := "whyExplain", fn := fun _ => fun
  | [d1, d2, d3] => { results := [.lit (.bool true)], args := [d1, d2, d3] }
  | _ => none }
def whyExplainRow : OpenClaim := { program := "yteefneemmdfncaa", sum := "0f169f0ce335655daa1034979a7cec53f101c8c69dc1034898e8c06cc4995f14", func := "gatehouse/gatehouselaw10.WhyExplain", spec := "whyExplain", unfollowed := true, recurses := true, plainKeys := false, apart := false }
def WhyExplainSaid : Prop := whyExplainRow.holds Try.pinned (OpenSpec.ofChange whyExplainSpec)

/-- ITS FALSE NEIGHBOUR: 'it returns false'. Refute it at one input. -/
def whyExplainWrong : ChangeSpec := { name := "whyExplain", fn := fun _ => fun
  | [d1, d2, d3] => { results := [.lit (.bool false)], args := [d1, d2, d3] }
  | _ => none }
def WhyExplainWrongFalsely : Prop := whyExplainRow.holds Try.pinned (OpenSpec.ofChange whyExplainWrong)

/-- 'gatehouselaw10.WhyHolds': WHATEVER THE INPUT: true; the input reads as it did. -/
def whyHoldsSpec : ChangeSpec := { name := "whyHolds", fn := fun _ => fun
  | [d1, d2, d3] => { results := [.lit (.bool true)], args := [d1, d2, d3] }
  | _ => none }
def whyHoldsRow : OpenClaim := { program := "yteefneemmdfncaa", sum := "0f169f0ce335655daa1034979a7cec53f101c8c69dc1034898e8c06cc4995f14", func := "gatehouse/gatehouselaw10.WhyHolds", spec := "whyHolds", unfollowed := true, recurses := true, plainKeys := false, apart := false }
def WhyHoldsSaid : Prop := whyHoldsRow.holds Try.pinned (OpenSpec.ofChange whyHoldsSpec)

/-- ITS FALSE NEIGHBOUR: 'it returns false'. Refute it at one input. -/
def whyHoldsWrong : ChangeSpec := { name := "whyHolds", fn := fun _ => fun
  | [d1, d2, d3] => { results := [.lit (.bool false)], args := [d1, d2, d3] }
  | _ => none }
def WhyHoldsWrongFalsely : Prop := whyHoldsRow.holds Try.pinned (OpenSpec.ofChange whyHoldsWrong)

/-- 'gatehouselaw13.DiffBetween': WHATEVER THE INPUT: true; the input reads as it did. -/
def diffBetweenSpec : ChangeSpec := { name := "diffBetween", fn := fun _ => fun
  | [d1, d2, d3] => { results := [.lit (.bool true)], args := [d1, d2, d3] }
  | _ => none }
def diffBetweenRow : OpenClaim := { program := "yteefneemmdfncaa", sum := "0f169f0ce335655daa1034979a7cec53f101c8c69dc1034898e8c06cc4995f14", func := "gatehouse/gatehouselaw13.DiffBetween", spec := "diffBetween", unfollowed := true, recurses := true, plainKeys := false, apart := false }
def DiffBetweenSaid : Prop := diffBetweenRow.holds Try.pinned (OpenSpec.ofChange diffBetweenSpec)

/-- ITS FALSE NEIGHBOUR: 'it returns false'. Refute it at one input. -/
def diffBetweenWrong : ChangeSpec := { name := "diffBetween", fn := fun _ => fun
  | [d1, d2, d3] => { results := [.lit (.bool false)], args := [d1, d2, d3] }
  | _ => none }
def DiffBetweenWrongFalsely : Prop := diffBetweenRow.holds Try.pinned (OpenSpec.ofChange diffBetweenWrong)

/-- 'gatehouselaw13.DiffList': WHATEVER THE INPUT: true; the input reads as it did. -/
def diffListSpec : ChangeSpec := { name := "diffList", fn := fun _ => fun
  | [d1, d2] => { results := [.lit (.bool true)], args := [d1, d2] }
  | _ => none }
def diffListRow : OpenClaim := { program := "yteefneemmdfncaa", sum := "0f169f0ce335655daa1034979a7cec53f101c8c69dc1034898e8c06cc4995f14", func := "gatehouse/gatehouselaw13.DiffList", spec := "diffList", unfollowed := true, recurses := true, plainKeys := false, apart := false }
def DiffListSaid : Prop := diffListRow.holds Try.pinned (OpenSpec.ofChange diffListSpec)

/-- ITS FALSE NEIGHBOUR: 'it returns false'. Refute it at one input. -/
def diffListWrong : ChangeSpec := { name := "diffList", fn := fun _ => fun
  | [d1, d2] => { results := [.lit (.bool false)], args := [d1, d2] }
  | _ => none }
def DiffListWrongFalsely : Prop := diffListRow.holds Try.pinned (OpenSpec.ofChange diffListWrong)

/-- 'gatehouselaw13.DiffBack': WHATEVER THE INPUT: true; the input reads as it did. -/
def diffBackSpec : ChangeSpec := { name := "diffBack", fn := fun _ => fun
  | [d1, d2] => { results := [.lit (.bool true)], args := [d1, d2] }
  | _ => none }
def diffBackRow : OpenClaim := { program := "yteefneemmdfncaa", sum := "0f169f0ce335655daa1034979a7cec53f101c8c69dc1034898e8c06cc4995f14", func := "gatehouse/gatehouselaw13.DiffBack", spec := "diffBack", unfollowed := true, recurses := true, plainKeys := false, apart := false }
def DiffBackSaid : Prop := diffBackRow.holds Try.pinned (OpenSpec.ofChange diffBackSpec)

/-- ITS FALSE NEIGHBOUR: 'it returns false'. Refute it at one input. -/
def diffBackWrong : ChangeSpec := { name := "diffBack", fn := fun _ => fun
  | [d1, d2] => { results := [.lit (.bool false)], args := [d1, d2] }
  | _ => none }
def DiffBackWrongFalsely : Prop := diffBackRow.holds Try.pinned (OpenSpec.ofChange diffBackWrong)

/-- 'gatehouselaw13.DiffChain': WHATEVER THE INPUT: true; the input reads as it did. -/
def diffChainSpec : ChangeSpec := { name := "diffChain", fn := fun _ => fun
  | [d1, d2] => { results := [.lit (.bool true)], args := [d1, d2] }
  | _ => none }
def diffChainRow : OpenClaim := { program := "yteefneemmdfncaa", sum := "0f169f0ce335655daa1034979a7cec53f101c8c69dc1034898e8c06cc4995f14", func := "gatehouse/gatehouselaw13.DiffChain", spec := "diffChain", unfollowed := true, recurses := true, plainKeys := false, apart := false }
def DiffChainSaid : Prop := diffChainRow.holds Try.pinned (OpenSpec.ofChange diffChainSpec)

/-- ITS FALSE NEIGHBOUR: 'it returns false'. Refute it at one input. -/
def diffChainWrong : ChangeSpec := { name := "diffChain", fn := fun _ => fun
  | [d1, d2] => { results := [.lit (.bool false)], args := [d1, d2] }
  | _ => none }
def DiffChainWrongFalsely : Prop := diffChainRow.holds Try.pinned (OpenSpec.ofChange diffChainWrong)

/-- 'gatehouselaw13.DiffTurns': WHATEVER THE INPUT: true; the input reads as it did. -/
def diffTurnsSpec : ChangeSpec := { name := "diffTurns", fn := fun _ => fun
  | [d1, d2, d3] => { results := [.lit (.bool true)], args := [d1, d2, d3] }
  | _ => none }
def diffTurnsRow : OpenClaim := { program := "yteefneemmdfncaa", sum := "0f169f0ce335655daa1034979a7cec53f101c8c69dc1034898e8c06cc4995f14", func := "gatehouse/gatehouselaw13.DiffTurns", spec := "diffTurns", unfollowed := true, recurses := true, plainKeys := false, apart := false }
def DiffTurnsSaid : Prop := diffTurnsRow.holds Try.pinned (OpenSpec.ofChange diffTurnsSpec)

/-- ITS FALSE NEIGHBOUR: 'it returns false'. Refute it at one input. -/
def diffTurnsWrong : ChangeSpec := { name := "diffTurns", fn := fun _ => fun
  | [d1, d2, d3] => { results := [.lit (.bool false)], args := [d1, d2, d3] }
  | _ => none }
def DiffTurnsWrongFalsely : Prop := diffTurnsRow.holds Try.pinned (OpenSpec.ofChange diffTurnsWrong)

/-- 'gatehouselaw13.DiffThrough': WHATEVER THE INPUT: true; the input reads as it did. -/
def diffThroughSpec : ChangeSpec := { name := "diffThrough", fn := fun _ => fun
  | [d1, d2, d3] => { results := [.lit (.bool true)], args := [d1, d2, d3] }
  | _ => none }
def diffThroughRow : OpenClaim := { program := "yteefneemmdfncaa", sum := "0f169f0ce335655daa1034979a7cec53f101c8c69dc1034898e8c06cc4995f14", func := "gatehouse/gatehouselaw13.DiffThrough", spec := "diffThrough", unfollowed := true, recurses := true, plainKeys := false, apart := false }
def DiffThroughSaid : Prop := diffThroughRow.holds Try.pinned (OpenSpec.ofChange diffThroughSpec)

/-- ITS FALSE NEIGHBOUR: 'it returns false'. Refute it at one input. -/
def diffThroughWrong : ChangeSpec := { name := "diffThrough", fn := fun _ => fun
  | [d1, d2, d3] => { results := [.lit (.bool false)], args := [d1, d2, d3] }
  | _ => none }
def DiffThroughWrongFalsely : Prop := diffThroughRow.holds Try.pinned (OpenSpec.ofChange diffThroughWrong)

/- THE SECOND FORM. 'bulk': how many values and letters a reading holds, each counted each time it is reached (what is shared counts as often as it is met; a slice's spare places count too). A statement '..UptoSaid' is the law's where the arguments, and the package variables that the reading takes, are together of bulk at most 1048576: NARROWER than '..Said'. Prove '..Said' where nothing that the law and all that it calls make is longer than what came in: it says more and counts as full. Else prove '..UptoSaid'. A law counts once. -/
mutual
def uptoBulk {H : Type} : DataW H → Nat
  | .lit (.string bytes) => bytes.length + 1
  | .lit _ => 1
  | .nil => 1
  | .ptr d => uptoBulk d + 1
  | .slice elems spare => uptoBulkAll elems + uptoBulkAll spare + 1
  | .agg parts => uptoBulkAll parts + 1
  | .iface _ d => uptoBulk d + 1
  | .map entries => uptoBulkEntries entries + 1
  | .held _ => 1
def uptoBulkAll {H : Type} : List (DataW H) → Nat
  | [] => 0
  | d :: r => uptoBulk d + uptoBulkAll r
def uptoBulkEntries {H : Type} : List (Lit × DataW H) → Nat
  | [] => 0
  | x :: r => uptoBulkEntry x + uptoBulkEntries r
def uptoBulkEntry {H : Type} : Lit × DataW H → Nat
  | (.string bytes, d) => bytes.length + uptoBulk d + 1
  | (_, d) => uptoBulk d + 1
 end
def uptoSmall : (H : Type) → List (DataW H) → Bool := fun _ ds => decide (uptoBulkAll ds ≤ 1048576)
def OpenSpec.upto (s : _root_.Go.ChangeSpec) : _root_.Go.OpenSpec := { _root_.Go.OpenSpec.ofChange s with cond := some uptoSmall }

/-- 'gatehouselaw10.WhyWho', WHERE WHAT IT READS IS OF BULK AT MOST 1048576: true; the input reads as it did. -/
def whyWhoUptoRow : OpenClaim := { program := "yteefneemmdfncaa", sum := "0f169f0ce335655daa1034979a7cec53f101c8c69dc1034898e8c06cc4995f14", func := "gatehouse/gatehouselaw10.WhyWho", spec := "whyWho", unfollowed := true, recurses := true, plainKeys := false, apart := false, narrowed := true }
def WhyWhoUptoSaid : Prop := whyWhoUptoRow.holds Try.pinned (OpenSpec.upto whyWhoSpec)

/-- 'gatehouselaw10.WhyExplain', WHERE WHAT IT READS IS OF BULK AT MOST 1048576: true; the input reads as it did. -/
def whyExplainUptoRow : OpenClaim := { program := "yteefneemmdfncaa", sum := "0f169f0ce335655daa1034979a7cec53f101c8c69dc1034898e8c06cc4995f14", func := "gatehouse/gatehouselaw10.WhyExplain", spec := "whyExplain", unfollowed := true, recurses := true, plainKeys := false, apart := false, narrowed := true }
def WhyExplainUptoSaid : Prop := whyExplainUptoRow.holds Try.pinned (OpenSpec.upto whyExplainSpec)

/-- 'gatehouselaw10.WhyHolds', WHERE WHAT IT READS IS OF BULK AT MOST 1048576: true; the input reads as it did. -/
def whyHoldsUptoRow : OpenClaim := { program := "yteefneemmdfncaa", sum := "0f169f0ce335655daa1034979a7cec53f101c8c69dc1034898e8c06cc4995f14", func := "gatehouse/gatehouselaw10.WhyHolds", spec := "whyHolds", unfollowed := true, recurses := true, plainKeys := false, apart := false, narrowed := true }
def WhyHoldsUptoSaid : Prop := whyHoldsUptoRow.holds Try.pinned (OpenSpec.upto whyHoldsSpec)

/-- 'gatehouselaw13.DiffBetween', WHERE WHAT IT READS IS OF BULK AT MOST 1048576: true; the input reads as it did. -/
def diffBetweenUptoRow : OpenClaim := { program := "yteefneemmdfncaa", sum := "0f169f0ce335655daa1034979a7cec53f101c8c69dc1034898e8c06cc4995f14", func := "gatehouse/gatehouselaw13.DiffBetween", spec := "diffBetween", unfollowed := true, recurses := true, plainKeys := false, apart := false, narrowed := true }
def DiffBetweenUptoSaid : Prop := diffBetweenUptoRow.holds Try.pinned (OpenSpec.upto diffBetweenSpec)

/-- 'gatehouselaw13.DiffList', WHERE WHAT IT READS IS OF BULK AT MOST 1048576: true; the input reads as it did. -/
def diffListUptoRow : OpenClaim := { program := "yteefneemmdfncaa", sum := "0f169f0ce335655daa1034979a7cec53f101c8c69dc1034898e8c06cc4995f14", func := "gatehouse/gatehouselaw13.DiffList", spec := "diffList", unfollowed := true, recurses := true, plainKeys := false, apart := false, narrowed := true }
def DiffListUptoSaid : Prop := diffListUptoRow.holds Try.pinned (OpenSpec.upto diffListSpec)

/-- 'gatehouselaw13.DiffBack', WHERE WHAT IT READS IS OF BULK AT MOST 1048576: true; the input reads as it did. -/
def diffBackUptoRow : OpenClaim := { program := "yteefneemmdfncaa", sum := "0f169f0ce335655daa1034979a7cec53f101c8c69dc1034898e8c06cc4995f14", func := "gatehouse/gatehouselaw13.DiffBack", spec := "diffBack", unfollowed := true, recurses := true, plainKeys := false, apart := false, narrowed := true }
def DiffBackUptoSaid : Prop := diffBackUptoRow.holds Try.pinned (OpenSpec.upto diffBackSpec)

/-- 'gatehouselaw13.DiffChain', WHERE WHAT IT READS IS OF BULK AT MOST 1048576: true; the input reads as it did. -/
def diffChainUptoRow : OpenClaim := { program := "yteefneemmdfncaa", sum := "0f169f0ce335655daa1034979a7cec53f101c8c69dc1034898e8c06cc4995f14", func := "gatehouse/gatehouselaw13.DiffChain", spec := "diffChain", unfollowed := true, recurses := true, plainKeys := false, apart := false, narrowed := true }
def DiffChainUptoSaid : Prop := diffChainUptoRow.holds Try.pinned (OpenSpec.upto diffChainSpec)

/-- 'gatehouselaw13.DiffTurns', WHERE WHAT IT READS IS OF BULK AT MOST 1048576: true; the input reads as it did. -/
def diffTurnsUptoRow : OpenClaim := { program := "yteefneemmdfncaa", sum := "0f169f0ce335655daa1034979a7cec53f101c8c69dc1034898e8c06cc4995f14", func := "gatehouse/gatehouselaw13.DiffTurns", spec := "diffTurns", unfollowed := true, recurses := true, plainKeys := false, apart := false, narrowed := true }
def DiffTurnsUptoSaid : Prop := diffTurnsUptoRow.holds Try.pinned (OpenSpec.upto diffTurnsSpec)

/-- 'gatehouselaw13.DiffThrough', WHERE WHAT IT READS IS OF BULK AT MOST 1048576: true; the input reads as it did. -/
def diffThroughUptoRow : OpenClaim := { program := "yteefneemmdfncaa", sum := "0f169f0ce335655daa1034979a7cec53f101c8c69dc1034898e8c06cc4995f14", func := "gatehouse/gatehouselaw13.DiffThrough", spec := "diffThrough", unfollowed := true, recurses := true, plainKeys := false, apart := false, narrowed := true }
def DiffThroughUptoSaid : Prop := diffThroughUptoRow.holds Try.pinned (OpenSpec.upto diffThroughSpec)

end Rows
end Go.Proofs.Yteefneemmdfncaa
