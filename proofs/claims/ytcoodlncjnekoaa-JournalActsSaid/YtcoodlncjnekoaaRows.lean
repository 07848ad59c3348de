/-
  No cell of these rows narrows 'for every input' (looked for: loops, veiled, ifaces, maps, wideKeys, modest, calm, conditions, laid).
  DERIVED. THE GIVEN ROWS OF THIS SEAT. 11 by the template 'for every input the law returns true; each argument reads behind the call as it read before'; 0 by the template 'total and deterministic' (their statements: YtcoodlncjnekoaaTotals.lean).
  GIVEN WITH THE SEED: the statements are not yours to turn. If you find one false, say at which input.
  Laid BY PROGRAM, IN A SANDBOX (cutbox-rows.mjs): the forced cells as the released guide's own fill.sh prints them over the translation dd27afb6697927a9… (all of the seat's roots in one cut). By AI agents, Wed Nov 11 2026. No macro, syntax, notation, axiom, sorry.
-/
import Derived.Test.YtcoodlncjnekoaaChecked
import GoSem.Claim
import GoSem.ClaimJoined
import GoSem.ClaimMapViews
import Derived.JoinedTies
import Derived.KernelRfl
namespace Go.Proofs.Ytcoodlncjnekoaa
/- THE CELL 'sum', in the pinned program and in every row, IS THE sha256 OF THE DUMP (.gsa) THAT YtcoodlncjnekoaaProg.lean LOADS. Nothing in Lean hashes anything: it is a label: what it is worth is what the hold of that sum in a sandbox is worth. -/
noncomputable def Try.pinned : Pinned := { name := "ytcoodlncjnekoaa", sum := "dd27afb6697927a921341c399285d1591717f5169461002ce5f1fa53331d3288", checked := Try.checked }
namespace Rows
def none {H : Type} : Left H := { results := [], args := [] }

/-- 'gatehouselaw22.JournalFrame': WHATEVER THE INPUT: true; the input reads as it did. -/
def journalFrameSpec : ChangeSpec := { name := "journalFrame", fn := fun _ => fun
  | [d] => { results := [.lit (.bool true)], args := [d] }
  | _ => none }
def journalFrameRow : OpenClaim := { program := "ytcoodlncjnekoaa", sum := "dd27afb6697927a921341c399285d1591717f5169461002ce5f1fa53331d3288", func := "gatehouse/gatehouselaw22.JournalFrame", spec := "journalFrame", apart := false }
def JournalFrameSaid : Prop := journalFrameRow.holds Try.pinned (OpenSpec.ofChange journalFrameSpec)

/-- ITS FALSE NEIGHBOUR: 'it returns false'. Refute it at one input. -/
def journalFrameWrong : ChangeSpec := { name := "journalFrame", fn := fun _ => fun
  | [d] => { results := [.lit (.bool false)], args := [d] }
  | _ => none }
def JournalFrameWrongFalsely : Prop := journalFrameRow.holds Try.pinned (OpenSpec.ofChange journalFrameWrong)

/-- 'gatehouselaw22.JournalRead': WHATEVER THE INPUT: true; the input reads as it did. -/
def journalReadSpec : ChangeSpec := { name := "journalRead", fn := fun _ => fun
  | [d1, d2] => { results := [.lit (.bool true)], args := [d1, d2] }
  | _ => none }
def journalReadRow : OpenClaim := { program := "ytcoodlncjnekoaa", sum := "dd27afb6697927a921341c399285d1591717f5169461002ce5f1fa53331d3288", func := "gatehouse/gatehouselaw22.JournalRead", spec := "journalRead", apart := false }
def JournalReadSaid : Prop := journalReadRow.holds Try.pinned (OpenSpec.ofChange journalReadSpec)

/-- ITS FALSE NEIGHBOUR: 'it returns false'. Refute it at one input. -/
def journalReadWrong : ChangeSpec := { name := "journalRead", fn := fun _ => fun
  | [d1, d2] => { results := [.lit (.bool false)], args := [d1, d2] }
  | _ => none }
def JournalReadWrongFalsely : Prop := journalReadRow.holds Try.pinned (OpenSpec.ofChange journalReadWrong)

/-- 'gatehouselaw21.DiskExact': WHATEVER THE INPUT: true; the input reads as it did. -/
def diskExactSpec : ChangeSpec := { name := "diskExact", fn := fun _ => fun
  | [d1, d2] => { results := [.lit (.bool true)], args := [d1, d2] }
  | _ => none }
def diskExactRow : OpenClaim := { program := "ytcoodlncjnekoaa", sum := "dd27afb6697927a921341c399285d1591717f5169461002ce5f1fa53331d3288", func := "gatehouse/gatehouselaw21.DiskExact", spec := "diskExact", inPlace := ["internal/abi.NoEscape"], apart := false }
def DiskExactSaid : Prop := diskExactRow.holds Try.pinned (OpenSpec.ofChange diskExactSpec)

/-- ITS FALSE NEIGHBOUR: 'it returns false'. Refute it at one input. -/
def diskExactWrong : ChangeSpec := { name := "diskExact", fn := fun _ => fun
  | [d1, d2] => { results := [.lit (.bool false)], args := [d1, d2] }
  | _ => none }
def DiskExactWrongFalsely : Prop := diskExactRow.holds Try.pinned (OpenSpec.ofChange diskExactWrong)

/-- 'gatehouselaw21.DiskKeeps': WHATEVER THE INPUT: true; the input reads as it did. -/
def diskKeepsSpec : ChangeSpec := { name := "diskKeeps", fn := fun _ => fun
  | [d1, d2] => { results := [.lit (.bool true)], args := [d1, d2] }
  | _ => none }
def diskKeepsRow : OpenClaim := { program := "ytcoodlncjnekoaa", sum := "dd27afb6697927a921341c399285d1591717f5169461002ce5f1fa53331d3288", func := "gatehouse/gatehouselaw21.DiskKeeps", spec := "diskKeeps", inPlace := ["internal/abi.NoEscape"], apart := false }
def DiskKeepsSaid : Prop := diskKeepsRow.holds Try.pinned (OpenSpec.ofChange diskKeepsSpec)

/-- ITS FALSE NEIGHBOUR: 'it returns false'. Refute it at one input. -/
def diskKeepsWrong : ChangeSpec := { name := "diskKeeps", fn := fun _ => fun
  | [d1, d2] => { results := [.lit (.bool false)], args := [d1, d2] }
  | _ => none }
def DiskKeepsWrongFalsely : Prop := diskKeepsRow.holds Try.pinned (OpenSpec.ofChange diskKeepsWrong)

/-- 'gatehouselaw21.DiskOutlives': WHATEVER THE INPUT: true; the input reads as it did. -/
def diskOutlivesSpec : ChangeSpec := { name := "diskOutlives", fn := fun _ => fun
  | [d1, d2] => { results := [.lit (.bool true)], args := [d1, d2] }
  | _ => none }
def diskOutlivesRow : OpenClaim := { program := "ytcoodlncjnekoaa", sum := "dd27afb6697927a921341c399285d1591717f5169461002ce5f1fa53331d3288", func := "gatehouse/gatehouselaw21.DiskOutlives", spec := "diskOutlives", inPlace := ["internal/abi.NoEscape"], apart := false }
def DiskOutlivesSaid : Prop := diskOutlivesRow.holds Try.pinned (OpenSpec.ofChange diskOutlivesSpec)

/-- ITS FALSE NEIGHBOUR: 'it returns false'. Refute it at one input. -/
def diskOutlivesWrong : ChangeSpec := { name := "diskOutlives", fn := fun _ => fun
  | [d1, d2] => { results := [.lit (.bool false)], args := [d1, d2] }
  | _ => none }
def DiskOutlivesWrongFalsely : Prop := diskOutlivesRow.holds Try.pinned (OpenSpec.ofChange diskOutlivesWrong)

/-- 'gatehouselaw22.JournalNames': WHATEVER THE INPUT: true; the input reads as it did. -/
def journalNamesSpec : ChangeSpec := { name := "journalNames", fn := fun _ => fun
  | [] => { results := [.lit (.bool true)], args := [] }
  | _ => none }
def journalNamesRow : OpenClaim := { program := "ytcoodlncjnekoaa", sum := "dd27afb6697927a921341c399285d1591717f5169461002ce5f1fa53331d3288", func := "gatehouse/gatehouselaw22.JournalNames", spec := "journalNames", apart := false }
def JournalNamesSaid : Prop := journalNamesRow.holds Try.pinned (OpenSpec.ofChange journalNamesSpec)

/-- ITS FALSE NEIGHBOUR: 'it returns false'. Refute it at one input. -/
def journalNamesWrong : ChangeSpec := { name := "journalNames", fn := fun _ => fun
  | [] => { results := [.lit (.bool false)], args := [] }
  | _ => none }
def JournalNamesWrongFalsely : Prop := journalNamesRow.holds Try.pinned (OpenSpec.ofChange journalNamesWrong)

/-- 'gatehouselaw22.JournalCut': WHATEVER THE INPUT: true; the input reads as it did. -/
def journalCutSpec : ChangeSpec := { name := "journalCut", fn := fun _ => fun
  | [d1, d2] => { results := [.lit (.bool true)], args := [d1, d2] }
  | _ => none }
def journalCutRow : OpenClaim := { program := "ytcoodlncjnekoaa", sum := "dd27afb6697927a921341c399285d1591717f5169461002ce5f1fa53331d3288", func := "gatehouse/gatehouselaw22.JournalCut", spec := "journalCut", apart := false }
def JournalCutSaid : Prop := journalCutRow.holds Try.pinned (OpenSpec.ofChange journalCutSpec)

/-- ITS FALSE NEIGHBOUR: 'it returns false'. Refute it at one input. -/
def journalCutWrong : ChangeSpec := { name := "journalCut", fn := fun _ => fun
  | [d1, d2] => { results := [.lit (.bool false)], args := [d1, d2] }
  | _ => none }
def JournalCutWrongFalsely : Prop := journalCutRow.holds Try.pinned (OpenSpec.ofChange journalCutWrong)

/-- 'gatehouselaw22.JournalTurned': WHATEVER THE INPUT: true; the input reads as it did. -/
def journalTurnedSpec : ChangeSpec := { name := "journalTurned", fn := fun _ => fun
  | [d1, d2, d3, d4, d5] => { results := [.lit (.bool true)], args := [d1, d2, d3, d4, d5] }
  | _ => none }
def journalTurnedRow : OpenClaim := { program := "ytcoodlncjnekoaa", sum := "dd27afb6697927a921341c399285d1591717f5169461002ce5f1fa53331d3288", func := "gatehouse/gatehouselaw22.JournalTurned", spec := "journalTurned", apart := false }
def JournalTurnedSaid : Prop := journalTurnedRow.holds Try.pinned (OpenSpec.ofChange journalTurnedSpec)

/-- ITS FALSE NEIGHBOUR: 'it returns false'. Refute it at one input. -/
def journalTurnedWrong : ChangeSpec := { name := "journalTurned", fn := fun _ => fun
  | [d1, d2, d3, d4, d5] => { results := [.lit (.bool false)], args := [d1, d2, d3, d4, d5] }
  | _ => none }
def JournalTurnedWrongFalsely : Prop := journalTurnedRow.holds Try.pinned (OpenSpec.ofChange journalTurnedWrong)

/-- 'gatehouselaw22.JournalApart': WHATEVER THE INPUT: true; the input reads as it did. -/
def journalApartSpec : ChangeSpec := { name := "journalApart", fn := fun _ => fun
  | [d1, d2] => { results := [.lit (.bool true)], args := [d1, d2] }
  | _ => none }
def journalApartRow : OpenClaim := { program := "ytcoodlncjnekoaa", sum := "dd27afb6697927a921341c399285d1591717f5169461002ce5f1fa53331d3288", func := "gatehouse/gatehouselaw22.JournalApart", spec := "journalApart", apart := false }
def JournalApartSaid : Prop := journalApartRow.holds Try.pinned (OpenSpec.ofChange journalApartSpec)

/-- ITS FALSE NEIGHBOUR: 'it returns false'. Refute it at one input. -/
def journalApartWrong : ChangeSpec := { name := "journalApart", fn := fun _ => fun
  | [d1, d2] => { results := [.lit (.bool false)], args := [d1, d2] }
  | _ => none }
def JournalApartWrongFalsely : Prop := journalApartRow.holds Try.pinned (OpenSpec.ofChange journalApartWrong)

/-- 'gatehouselaw22.JournalActs': WHATEVER THE INPUT: true; the input reads as it did. -/
def journalActsSpec : ChangeSpec := { name := "journalActs", fn := fun _ => fun
  | [d1, d2, d3, d4] => { results := [.lit (.bool true)], args := [d1, d2, d3, d4] }
  | _ => none }
def journalActsRow : OpenClaim := { program := "ytcoodlncjnekoaa", sum := "dd27afb6697927a921341c399285d1591717f5169461002ce5f1fa53331d3288", func := "gatehouse/gatehouselaw22.JournalActs", spec := "journalActs", inPlace := ["internal/abi.NoEscape"], apart := false }
def JournalActsSaid : Prop := journalActsRow.holds Try.pinned (OpenSpec.ofChange journalActsSpec)

/-- ITS FALSE NEIGHBOUR: 'it returns false'. Refute it at one input. -/
def journalActsWrong : ChangeSpec := { name := "journalActs", fn := fun _ => fun
  | [d1, d2, d3, d4] => { results := [.lit (.bool false)], args := [d1, d2, d3, d4] }
  | _ => none }
def JournalActsWrongFalsely : Prop := journalActsRow.holds Try.pinned (OpenSpec.ofChange journalActsWrong)

/-- 'gatehouselaw22.JournalPower': WHATEVER THE INPUT: true; the input reads as it did. -/
def journalPowerSpec : ChangeSpec := { name := "journalPower", fn := fun _ => fun
  | [d1, d2, d3, d4] => { results := [.lit (.bool true)], args := [d1, d2, d3, d4] }
  | _ => none }
def journalPowerRow : OpenClaim := { program := "ytcoodlncjnekoaa", sum := "dd27afb6697927a921341c399285d1591717f5169461002ce5f1fa53331d3288", func := "gatehouse/gatehouselaw22.JournalPower", spec := "journalPower", inPlace := ["internal/abi.NoEscape"], apart := false }
def JournalPowerSaid : Prop := journalPowerRow.holds Try.pinned (OpenSpec.ofChange journalPowerSpec)

/-- ITS FALSE NEIGHBOUR: 'it returns false'. Refute it at one input. -/
def journalPowerWrong : ChangeSpec := { name := "journalPower", fn := fun _ => fun
  | [d1, d2, d3, d4] => { results := [.lit (.bool false)], args := [d1, d2, d3, d4] }
  | _ => none }
def JournalPowerWrongFalsely : Prop := journalPowerRow.holds Try.pinned (OpenSpec.ofChange journalPowerWrong)

/- THE SECOND FORM. 'bulk': how many values and letters a reading holds, each counted each time it is reached (what is shared counts as often as it is met; a slice's spare places count too). A statement '..UptoSaid' is the law's where the arguments, and the package variables that the reading takes, are together of bulk at most 1048576: NARROWER than '..Said'. Prove '..Said' where nothing that the law and all that it calls make is longer than what came in: it says more and counts as full. Else prove '..UptoSaid'. A law counts once. -/
mutual
def uptoBulk {H : Type} : DataW H → Nat
  | .lit (.string bytes) => bytes.length + 1
  | .lit _ => 1
  | .nil => 1
  | .ptr d => uptoBulk d + 1
  | .slice elems spare => uptoBulkAll elems + uptoBulkAll spare + 1
  | .agg parts => uptoBulkAll parts + 1
  | .iface _ d => uptoBulk d + 1
  | .map entries => uptoBulkEntries entries + 1
  | .held _ => 1
def uptoBulkAll {H : Type} : List (DataW H) → Nat
  | [] => 0
  | d :: r => uptoBulk d + uptoBulkAll r
def uptoBulkEntries {H : Type} : List (Lit × DataW H) → Nat
  | [] => 0
  | x :: r => uptoBulkEntry x + uptoBulkEntries r
def uptoBulkEntry {H : Type} : Lit × DataW H → Nat
  | (.string bytes, d) => bytes.length + uptoBulk d + 1
  | (_, d) => uptoBulk d + 1
 end
def uptoSmall : (H : Type) → List (DataW H) → Bool := fun _ ds => decide (uptoBulkAll ds ≤ 1048576)
def OpenSpec.upto (s : _root_.Go.ChangeSpec) : _root_.Go.OpenSpec := { _root_.Go.OpenSpec.ofChange s with cond := some uptoSmall }

/-- 'gatehouselaw22.JournalFrame', WHERE WHAT IT READS IS OF BULK AT MOST 1048576: true; the input reads as it did. -/
def journalFrameUptoRow : OpenClaim := { program := "ytcoodlncjnekoaa", sum := "dd27afb6697927a921341c399285d1591717f5169461002ce5f1fa53331d3288", func := "gatehouse/gatehouselaw22.JournalFrame", spec := "journalFrame", apart := false, narrowed := true }
def JournalFrameUptoSaid : Prop := journalFrameUptoRow.holds Try.pinned (OpenSpec.upto journalFrameSpec)

/-- 'gatehouselaw22.JournalRead', WHERE WHAT IT READS IS OF BULK AT MOST 1048576: true; the input reads as it did. -/
def journalReadUptoRow : OpenClaim := { program := "ytcoodlncjnekoaa", sum := "dd27afb6697927a921341c399285d1591717f5169461002ce5f1fa53331d3288", func := "gatehouse/gatehouselaw22.JournalRead", spec := "journalRead", apart := false, narrowed := true }
def JournalReadUptoSaid : Prop := journalReadUptoRow.holds Try.pinned (OpenSpec.upto journalReadSpec)

/-- 'gatehouselaw21.DiskExact', WHERE WHAT IT READS IS OF BULK AT MOST 1048576: true; the input reads as it did. -/
def diskExactUptoRow : OpenClaim := { program := "ytcoodlncjnekoaa", sum := "dd27afb6697927a921341c399285d1591717f5169461002ce5f1fa53331d3288", func := "gatehouse/gatehouselaw21.DiskExact", spec := "diskExact", inPlace := ["internal/abi.NoEscape"], apart := false, narrowed := true }
def DiskExactUptoSaid : Prop := diskExactUptoRow.holds Try.pinned (OpenSpec.upto diskExactSpec)

/-- 'gatehouselaw21.DiskKeeps', WHERE WHAT IT READS IS OF BULK AT MOST 1048576: true; the input reads as it did. -/
def diskKeepsUptoRow : OpenClaim := { program := "ytcoodlncjnekoaa", sum := "dd27afb6697927a921341c399285d1591717f5169461002ce5f1fa53331d3288", func := "gatehouse/gatehouselaw21.DiskKeeps", spec := "diskKeeps", inPlace := ["internal/abi.NoEscape"], apart := false, narrowed := true }
def DiskKeepsUptoSaid : Prop := diskKeepsUptoRow.holds Try.pinned (OpenSpec.upto diskKeepsSpec)

/-- 'gatehouselaw21.DiskOutlives', WHERE WHAT IT READS IS OF BULK AT MOST 1048576: true; the input reads as it did. -/
def diskOutlivesUptoRow : OpenClaim := { program := "ytcoodlncjnekoaa", sum := "dd27afb6697927a921341c399285d1591717f5169461002ce5f1fa53331d3288", func := "gatehouse/gatehouselaw21.DiskOutlives", spec := "diskOutlives", inPlace := ["internal/abi.NoEscape"], apart := false, narrowed := true }
def DiskOutlivesUptoSaid : Prop := diskOutlivesUptoRow.holds Try.pinned (OpenSpec.upto diskOutlivesSpec)

/-- 'gatehouselaw22.JournalNames', WHERE WHAT IT READS IS OF BULK AT MOST 1048576: true; the input reads as it did. -/
def journalNamesUptoRow : OpenClaim := { program := "ytcoodlncjnekoaa", sum := "dd27afb6697927a921341c399285d1591717f5169461002ce5f1fa53331d3288", func := "gatehouse/gatehouselaw22.JournalNames", spec := "journalNames", apart := false, narrowed := true }
def JournalNamesUptoSaid : Prop := journalNamesUptoRow.holds Try.pinned (OpenSpec.upto journalNamesSpec)

/-- 'gatehouselaw22.JournalCut', WHERE WHAT IT READS IS OF BULK AT MOST 1048576: true; the input reads as it did. -/
def journalCutUptoRow : OpenClaim := { program := "ytcoodlncjnekoaa", sum := "dd27afb6697927a921341c399285d1591717f5169461002ce5f1fa53331d3288", func := "gatehouse/gatehouselaw22.JournalCut", spec := "journalCut", apart := false, narrowed := true }
def JournalCutUptoSaid : Prop := journalCutUptoRow.holds Try.pinned (OpenSpec.upto journalCutSpec)

/-- 'gatehouselaw22.JournalTurned', WHERE WHAT IT READS IS OF BULK AT MOST 1048576: true; the input reads as it did. -/
def journalTurnedUptoRow : OpenClaim := { program := "ytcoodlncjnekoaa", sum := "dd27afb6697927a921341c399285d1591717f5169461002ce5f1fa53331d3288", func := "gatehouse/gatehouselaw22.JournalTurned", spec := "journalTurned", apart := false, narrowed := true }
def JournalTurnedUptoSaid : Prop := journalTurnedUptoRow.holds Try.pinned (OpenSpec.upto journalTurnedSpec)

/-- 'gatehouselaw22.JournalApart', WHERE WHAT IT READS IS OF BULK AT MOST 1048576: true; the input reads as it did. -/
def journalApartUptoRow : OpenClaim := { program := "ytcoodlncjnekoaa", sum := "dd27afb6697927a921341c399285d1591717f5169461002ce5f1fa53331d3288", func := "gatehouse/gatehouselaw22.JournalApart", spec := "journalApart", apart := false, narrowed := true }
def JournalApartUptoSaid : Prop := journalApartUptoRow.holds Try.pinned (OpenSpec.upto journalApartSpec)

/-- 'gatehouselaw22.JournalActs', WHERE WHAT IT READS IS OF BULK AT MOST 1048576: true; the input reads as it did. -/
def journalActsUptoRow : OpenClaim := { program := "ytcoodlncjnekoaa", sum := "dd27afb6697927a921341c399285d1591717f5169461002ce5f1fa53331d3288", func := "gatehouse/gatehouselaw22.JournalActs", spec := "journalActs", inPlace := ["internal/abi.NoEscape"], apart := false, narrowed := true }
def JournalActsUptoSaid : Prop := journalActsUptoRow.holds Try.pinned (OpenSpec.upto journalActsSpec)

/-- 'gatehouselaw22.JournalPower', WHERE WHAT IT READS IS OF BULK AT MOST 1048576: true; the input reads as it did. -/
def journalPowerUptoRow : OpenClaim := { program := "ytcoodlncjnekoaa", sum := "dd27afb6697927a921341c399285d1591717f5169461002ce5f1fa53331d3288", func := "gatehouse/gatehouselaw22.JournalPower", spec := "journalPower", inPlace := ["internal/abi.NoEscape"], apart := false, narrowed := true }
def JournalPowerUptoSaid : Prop := journalPowerUptoRow.holds Try.pinned (OpenSpec.upto journalPowerSpec)

end Rows
end Go.Proofs.Ytcoodlncjnekoaa
