/-
  No cell of these rows narrows 'for every input' (looked for: loops, veiled, ifaces, maps, wideKeys, modest, calm, conditions, laid).
  DERIVED. THE GIVEN ROWS OF THIS SEAT. 5 by the template 'for every input the law returns true; each argument reads behind the call as it read before'; 0 by the template 'total and deterministic' (their statements: YtaeijlkogenblaaTotals.lean).
  GIVEN WITH THE SEED: the statements are not yours to turn. If you find one false, say at which input.
  Laid BY PROGRAM, IN A SANDBOX (cutbox-rows.mjs): the forced cells as the released guide's own fill.sh prints them over the translation 52197afd06d46954… (all of the seat's roots in one cut). By AI agents, Wed Nov 11 2026. No macro, syntax, notation, axiom, sorry.
-/
import Derived.Test.YtaeijlkogenblaaChecked
import GoSem.Claim
import GoSem.ClaimJoined
import GoSem.ClaimMapViews
import Derived.JoinedTies
import Derived.KernelRfl
namespace Go.Proofs.Ytaeijlkogenblaa
/- THE CELL 'sum', in the pinned program and in every row, IS THE sha256 OF THE DUMP (.gsa) THAT YtaeijlkogenblaaProg.lean LOADS. Nothing in Lean hashes anything: it is a label: what it is worth is what the hold of that sum in a sandbox is worth. -/
noncomputable def Try.pinned : Pinned := { name := "ytaeijlkogenblaa", sum := "52197afd06d4695481aa8ffcf75d9299da49e076d917f5ab8dba7230cb347dd7", checked := Try.checked }
namespace Rows
def none {H : Type} : Left H := { results := [], args := [] }

/-- 'gatehouselaw01.NamesCounts': WHATEVER THE INPUT: true; the input reads as it did. -/
def namesCountsSpec : ChangeSpec := { name := "namesCounts", fn := fun _ => fun
  | [d1, d2] => { results := [.lit (.bool true)], args := [d1, d2] }
  | _ => none }
def namesCountsRow : OpenClaim := { program := "ytaeijlkogenblaa", sum := "52197afd06d4695481aa8ffcf75d9299da49e076d917f5ab8dba7230cb347dd7", func := "gatehouse/gatehouselaw01.NamesCounts", spec := "namesCounts", plainKeys := false, apart := false }
def NamesCountsSaid : Prop := namesCountsRow.holds Try.pinned (OpenSpec.ofChange namesCountsSpec)

/-- ITS FALSE NEIGHBOUR: 'it returns false'. Refute it at one input. -/
def namesCountsWrong : ChangeSpec := { name := "namesCounts", fn := fun _ => fun
  | [d1, d2] => { results := [.lit (.bool false)], args := [d1, d2] }
  | _ => none }
def NamesCountsWrongFalsely : Prop := namesCountsRow.holds Try.pinned (OpenSpec.ofChange namesCountsWrong)

/-- 'gatehouselaw01.NamesFull': WHATEVER THE INPUT: true; the input reads as it did. -/
def namesFullSpec : ChangeSpec := { name := "namesFull", fn := fun _ => fun
  | [] => { results := [.lit (.bool true)], args := [] }
  | _ => none }
def namesFullRow : OpenClaim := { program := "ytaeijlkogenblaa", sum := "52197afd06d4695481aa8ffcf75d9299da49e076d917f5ab8dba7230cb347dd7", func := "gatehouse/gatehouselaw01.NamesFull", spec := "namesFull", plainKeys := false, apart := false }
def NamesFullSaid : Prop := namesFullRow.holds Try.pinned (OpenSpec.ofChange namesFullSpec)

/-- ITS FALSE NEIGHBOUR: 'it returns false'. Refute it at one input. -/
def namesFullWrong : ChangeSpec := { name := "namesFull", fn := fun _ => fun
  | [] => { results := [.lit (.bool false)], args := [] }
  | _ => none }
def NamesFullWrongFalsely : Prop := namesFullRow.holds Try.pinned (OpenSpec.ofChange namesFullWrong)

/-- 'gatehouselaw01.NamesTexts': WHATEVER THE INPUT: true; the input reads as it did. -/
def namesTextsSpec : ChangeSpec := { name := "namesTexts", fn := fun _ => fun
  | [d1, d2] => { results := [.lit (.bool true)], args := [d1, d2] }
  | _ => none }
def namesTextsRow : OpenClaim := { program := "ytaeijlkogenblaa", sum := "52197afd06d4695481aa8ffcf75d9299da49e076d917f5ab8dba7230cb347dd7", func := "gatehouse/gatehouselaw01.NamesTexts", spec := "namesTexts", unfollowed := true, recurses := true, plainKeys := false, apart := false }
def NamesTextsSaid : Prop := namesTextsRow.holds Try.pinned (OpenSpec.ofChange namesTextsSpec)

/-- ITS FALSE NEIGHBOUR: 'it returns false'. Refute it at one input. -/
def namesTextsWrong : ChangeSpec := { name := "namesTexts", fn := fun _ => fun
  | [d1, d2] => { results := [.lit (.bool false)], args := [d1, d2] }
  | _ => none }
def NamesTextsWrongFalsely : Prop := namesTextsRow.holds Try.pinned (OpenSpec.ofChange namesTextsWrong)

/-- 'gatehouselaw01.NamesFloats': WHATEVER THE INPUT: true; the input reads as it did. -/
def namesFloatsSpec : ChangeSpec := { name := "namesFloats", fn := fun _ => fun
  | [d] => { results := [.lit (.bool true)], args := [d] }
  | _ => none }
def namesFloatsRow : OpenClaim := { program := "ytaeijlkogenblaa", sum := "52197afd06d4695481aa8ffcf75d9299da49e076d917f5ab8dba7230cb347dd7", func := "gatehouse/gatehouselaw01.NamesFloats", spec := "namesFloats", unfollowed := true, recurses := true, plainKeys := false, apart := false }
def NamesFloatsSaid : Prop := namesFloatsRow.holds Try.pinned (OpenSpec.ofChange namesFloatsSpec)

/-- ITS FALSE NEIGHBOUR: 'it returns false'. Refute it at one input. -/
def namesFloatsWrong : ChangeSpec := { name := "namesFloats", fn := fun _ => fun
  | [d] => { results := [.lit (.bool false)], args := [d] }
  | _ => none }
def NamesFloatsWrongFalsely : Prop := namesFloatsRow.holds Try.pinned (OpenSpec.ofChange namesFloatsWrong)

/-- 'gatehouselaw01.NamesPairs': WHATEVER THE INPUT: true; the input reads as it did. -/
def namesPairsSpec : ChangeSpec := { name := "namesPairs", fn := fun _ => fun
  | [d] => { results := [.lit (.bool true)], args := [d] }
  | _ => none }
def namesPairsRow : OpenClaim := { program := "ytaeijlkogenblaa", sum := "52197afd06d4695481aa8ffcf75d9299da49e076d917f5ab8dba7230cb347dd7", func := "gatehouse/gatehouselaw01.NamesPairs", spec := "namesPairs", unfollowed := true, recurses := true, plainKeys := false, apart := false }
def NamesPairsSaid : Prop := namesPairsRow.holds Try.pinned (OpenSpec.ofChange namesPairsSpec)

/-- ITS FALSE NEIGHBOUR: 'it returns false'. Refute it at one input. -/
def namesPairsWrong : ChangeSpec := { name := "namesPairs", fn := fun _ => fun
  | [d] => { results := [.lit (.bool false)], args := [d] }
  | _ => none }
def NamesPairsWrongFalsely : Prop := namesPairsRow.holds Try.pinned (OpenSpec.ofChange namesPairsWrong)

/- THE SECOND FORM. 'bulk': how many values and letters a reading holds, each counted each time it is reached (what is shared counts as often as it is met; a slice's spare places count too). A statement '..UptoSaid' is the law's where the arguments, and the package variables that the reading takes, are together of bulk at most 1048576: NARROWER than '..Said'. Prove '..Said' where nothing that the law and all that it calls make is longer than what came in: it says more and counts as full. Else prove '..UptoSaid'. A law counts once. -/
mutual
def uptoBulk {H : Type} : DataW H → Nat
  | .lit (.string bytes) => bytes.length + 1
  | .lit _ => 1
  | .nil => 1
  | .ptr d => uptoBulk d + 1
  | .slice elems spare => uptoBulkAll elems + uptoBulkAll spare + 1
  | .agg parts => uptoBulkAll parts + 1
  | .iface _ d => uptoBulk d + 1
  | .map entries => uptoBulkEntries entries + 1
  | .held _ => 1
def uptoBulkAll {H : Type} : List (DataW H) → Nat
  | [] => 0
  | d :: r => uptoBulk d + uptoBulkAll r
def uptoBulkEntries {H : Type} : List (Lit × DataW H) → Nat
  | [] => 0
  | x :: r => uptoBulkEntry x + uptoBulkEntries r
def uptoBulkEntry {H : Type} : Lit × DataW H → Nat
  | (.string bytes, d) => bytes.length + uptoBulk d + 1
  | (_, d) => uptoBulk d + 1
 end
def uptoSmall : (H : Type) → List (DataW H) → Bool := fun _ ds => decide (uptoBulkAll ds ≤ 1048576)
def OpenSpec.upto (s : _root_.Go.ChangeSpec) : _root_.Go.OpenSpec := { _root_.Go.OpenSpec.ofChange s with cond := some uptoSmall }

/-- 'gatehouselaw01.NamesCounts', WHERE WHAT IT READS IS OF BULK AT MOST 1048576: true; the input reads as it did. -/
def namesCountsUptoRow : OpenClaim := { program := "ytaeijlkogenblaa", sum := "52197afd06d4695481aa8ffcf75d9299da49e076d917f5ab8dba7230cb347dd7", func := "gatehouse/gatehouselaw01.NamesCounts", spec := "namesCounts", plainKeys := false, apart := false, narrowed := true }
def NamesCountsUptoSaid : Prop := namesCountsUptoRow.holds Try.pinned (OpenSpec.upto namesCountsSpec)

/-- 'gatehouselaw01.NamesFull', WHERE WHAT IT READS IS OF BULK AT MOST 1048576: true; the input reads as it did. -/
def namesFullUptoRow : OpenClaim := { program := "ytaeijlkogenblaa", sum := "52197afd06d4695481aa8ffcf75d9299da49e076d917f5ab8dba7230cb347dd7", func := "gatehouse/gatehouselaw01.NamesFull", spec := "namesFull", plainKeys := false, apart := false, narrowed := true }
def NamesFullUptoSaid : Prop := namesFullUptoRow.holds Try.pinned (OpenSpec.upto namesFullSpec)

/-- 'gatehouselaw01.NamesTexts', WHERE WHAT IT READS IS OF BULK AT MOST 1048576: true; the input reads as it did. -/
def namesTextsUptoRow : OpenClaim := { program := "ytaeijlkogenblaa", sum := "52197afd06d4695481aa8ffcf75d9299da49e076d917f5ab8dba7230cb347dd7", func := "gatehouse/gatehouselaw01.NamesTexts", spec := "namesTexts", unfollowed := true, recurses := true, plainKeys := false, apart := false, narrowed := true }
def NamesTextsUptoSaid : Prop := namesTextsUptoRow.holds Try.pinned (OpenSpec.upto namesTextsSpec)

/-- 'gatehouselaw01.NamesFloats', WHERE WHAT IT READS IS OF BULK AT MOST 1048576: true; the input reads as it did. -/
def namesFloatsUptoRow : OpenClaim := { program := "ytaeijlkogenblaa", sum := "52197afd06d4695481aa8ffcf75d9299da49e076d917f5ab8dba7230cb347dd7", func := "gatehouse/gatehouselaw01.NamesFloats", spec := "namesFloats", unfollowed := true, recurses := true, plainKeys := false, apart := false, narrowed := true }
def NamesFloatsUptoSaid : Prop := namesFloatsUptoRow.holds Try.pinned (OpenSpec.upto namesFloatsSpec)

/-- 'gatehouselaw01.NamesPairs', WHERE WHAT IT READS IS OF BULK AT MOST 1048576: true; the input reads as it did. -/
def namesPairsUptoRow : OpenClaim := { program := "ytaeijlkogenblaa", sum := "52197afd06d4695481aa8ffcf75d9299da49e076d917f5ab8dba7230cb347dd7", func := "gatehouse/gatehouselaw01.NamesPairs", spec := "namesPairs", unfollowed := true, recurses := true, plainKeys := false, apart := false, narrowed := true }
def NamesPairsUptoSaid : Prop := namesPairsUptoRow.holds Try.pinned (OpenSpec.upto namesPairsSpec)

end Rows
end Go.Proofs.Ytaeijlkogenblaa
