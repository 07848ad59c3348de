/-
  No cell of these rows narrows 'for every input' (looked for: loops, veiled, ifaces, maps, wideKeys, modest, calm, conditions, laid).
  DERIVED. THE GIVEN ROWS OF THIS SEAT. 13 by the template 'for every input the law returns true; each argument reads behind the call as it read before'; 0 by the template 'total and deterministic' (their statements: YtnkdcekddhmjnaaTotals.lean).
  GIVEN WITH THE SEED: the statements are not yours to turn. If you find one false, say at which input.
  Laid BY PROGRAM, IN A SANDBOX (cutbox-rows.mjs): the forced cells as the released guide's own fill.sh prints them over the translation 7446f37e275fb5d9… (all of the seat's roots in one cut). By AI agents, Wed Nov 11 2026. No macro, syntax, notation, axiom, sorry.
-/
import Derived.Test.YtnkdcekddhmjnaaChecked
import GoSem.Claim
import GoSem.ClaimJoined
import GoSem.ClaimMapViews
import Derived.JoinedTies
import Derived.KernelRfl
namespace Go.Proofs.Ytnkdcekddhmjnaa
/- THE CELL 'sum', in the pinned program and in every row, IS THE sha256 OF THE DUMP (.gsa) THAT YtnkdcekddhmjnaaProg.lean LOADS. Nothing in Lean hashes anything: it is a label: what it is worth is what the hold of that sum in a sandbox is worth. -/
noncomputable def Try.pinned : Pinned := { name := "ytnkdcekddhmjnaa", sum := "7446f37e275fb5d96881aee30efec2d22c0c13465a47c084f29670f5a904caa8", checked := Try.checked }
namespace Rows
def none {H : Type} : Left H := { results := [], args := [] }

/-- 'gatehouselaw08.MeanNames': WHATEVER THE INPUT: true; the input reads as it did. -/
def meanNamesSpec : ChangeSpec := { name := "meanNames", fn := fun _ => fun
  | [] => { results := [.lit (.bool true)], args := [] }
  | _ => none }
def meanNamesRow : OpenClaim := { program := "ytnkdcekddhmjnaa", sum := "7446f37e275fb5d96881aee30efec2d22c0c13465a47c084f29670f5a904caa8", func := "gatehouse/gatehouselaw08.MeanNames", spec := "meanNames", apart := false }
def MeanNamesSaid : Prop := meanNamesRow.holds Try.pinned (OpenSpec.ofChange meanNamesSpec)

/-- ITS FALSE NEIGHBOUR: 'it returns false'. Refute it at one input. -/
def meanNamesWrong : ChangeSpec := { name := "meanNames", fn := fun _ => fun
  | [] => { results := [.lit (.bool false)], args := [] }
  | _ => none }
def MeanNamesWrongFalsely : Prop := meanNamesRow.holds Try.pinned (OpenSpec.ofChange meanNamesWrong)

/-- 'gatehouselaw08.MeanPasses': WHATEVER THE INPUT: true; the input reads as it did. -/
def meanPassesSpec : ChangeSpec := { name := "meanPasses", fn := fun _ => fun
  | [d1, d2] => { results := [.lit (.bool true)], args := [d1, d2] }
  | _ => none }
def meanPassesRow : OpenClaim := { program := "ytnkdcekddhmjnaa", sum := "7446f37e275fb5d96881aee30efec2d22c0c13465a47c084f29670f5a904caa8", func := "gatehouse/gatehouselaw08.MeanPasses", spec := "meanPasses", apart := false }
def MeanPassesSaid : Prop := meanPassesRow.holds Try.pinned (OpenSpec.ofChange meanPassesSpec)

/-- ITS FALSE NEIGHBOUR: 'it returns false'. Refute it at one input. -/
def meanPassesWrong : ChangeSpec := { name := "meanPasses", fn := fun _ => fun
  | [d1, d2] => { results := [.lit (.bool false)], args := [d1, d2] }
  | _ => none }
def MeanPassesWrongFalsely : Prop := meanPassesRow.holds Try.pinned (OpenSpec.ofChange meanPassesWrong)

/-- 'gatehouselaw08.MeanMatches': WHATEVER THE INPUT: true; the input reads as it did. -/
def meanMatchesSpec : ChangeSpec := { name := "meanMatches", fn := fun _ => fun
  | [d1, d2, d3] => { results := [.lit (.bool true)], args := [d1, d2, d3] }
  | _ => none }
def meanMatchesRow : OpenClaim := { program := "ytnkdcekddhmjnaa", sum := "7446f37e275fb5d96881aee30efec2d22c0c13465a47c084f29670f5a904caa8", func := "gatehouse/gatehouselaw08.MeanMatches", spec := "meanMatches", unfollowed := true, recurses := true, apart := false }
def MeanMatchesSaid : Prop := meanMatchesRow.holds Try.pinned (OpenSpec.ofChange meanMatchesSpec)

/-- ITS FALSE NEIGHBOUR: 'it returns false'. Refute it at one input. -/
def meanMatchesWrong : ChangeSpec := { name := "meanMatches", fn := fun _ => fun
  | [d1, d2, d3] => { results := [.lit (.bool false)], args := [d1, d2, d3] }
  | _ => none }
def MeanMatchesWrongFalsely : Prop := meanMatchesRow.holds Try.pinned (OpenSpec.ofChange meanMatchesWrong)

/-- 'gatehouselaw08.MeanAllows': WHATEVER THE INPUT: true; the input reads as it did. -/
def meanAllowsSpec : ChangeSpec := { name := "meanAllows", fn := fun _ => fun
  | [d1, d2] => { results := [.lit (.bool true)], args := [d1, d2] }
  | _ => none }
def meanAllowsRow : OpenClaim := { program := "ytnkdcekddhmjnaa", sum := "7446f37e275fb5d96881aee30efec2d22c0c13465a47c084f29670f5a904caa8", func := "gatehouse/gatehouselaw08.MeanAllows", spec := "meanAllows", unfollowed := true, recurses := true, apart := false }
def MeanAllowsSaid : Prop := meanAllowsRow.holds Try.pinned (OpenSpec.ofChange meanAllowsSpec)

/-- ITS FALSE NEIGHBOUR: 'it returns false'. Refute it at one input. -/
def meanAllowsWrong : ChangeSpec := { name := "meanAllows", fn := fun _ => fun
  | [d1, d2] => { results := [.lit (.bool false)], args := [d1, d2] }
  | _ => none }
def MeanAllowsWrongFalsely : Prop := meanAllowsRow.holds Try.pinned (OpenSpec.ofChange meanAllowsWrong)

/-- 'gatehouselaw08.MeanMask': WHATEVER THE INPUT: true; the input reads as it did. -/
def meanMaskSpec : ChangeSpec := { name := "meanMask", fn := fun _ => fun
  | [d1, d2, d3] => { results := [.lit (.bool true)], args := [d1, d2, d3] }
  | _ => none }
def meanMaskRow : OpenClaim := { program := "ytnkdcekddhmjnaa", sum := "7446f37e275fb5d96881aee30efec2d22c0c13465a47c084f29670f5a904caa8", func := "gatehouse/gatehouselaw08.MeanMask", spec := "meanMask", unfollowed := true, recurses := true, apart := false }
def MeanMaskSaid : Prop := meanMaskRow.holds Try.pinned (OpenSpec.ofChange meanMaskSpec)

/-- ITS FALSE NEIGHBOUR: 'it returns false'. Refute it at one input. -/
def meanMaskWrong : ChangeSpec := { name := "meanMask", fn := fun _ => fun
  | [d1, d2, d3] => { results := [.lit (.bool false)], args := [d1, d2, d3] }
  | _ => none }
def MeanMaskWrongFalsely : Prop := meanMaskRow.holds Try.pinned (OpenSpec.ofChange meanMaskWrong)

/-- 'gatehouselaw08.MeanRelation': WHATEVER THE INPUT: true; the input reads as it did. -/
def meanRelationSpec : ChangeSpec := { name := "meanRelation", fn := fun _ => fun
  | [d] => { results := [.lit (.bool true)], args := [d] }
  | _ => none }
def meanRelationRow : OpenClaim := { program := "ytnkdcekddhmjnaa", sum := "7446f37e275fb5d96881aee30efec2d22c0c13465a47c084f29670f5a904caa8", func := "gatehouse/gatehouselaw08.MeanRelation", spec := "meanRelation", unfollowed := true, recurses := true, apart := false }
def MeanRelationSaid : Prop := meanRelationRow.holds Try.pinned (OpenSpec.ofChange meanRelationSpec)

/-- ITS FALSE NEIGHBOUR: 'it returns false'. Refute it at one input. -/
def meanRelationWrong : ChangeSpec := { name := "meanRelation", fn := fun _ => fun
  | [d] => { results := [.lit (.bool false)], args := [d] }
  | _ => none }
def MeanRelationWrongFalsely : Prop := meanRelationRow.holds Try.pinned (OpenSpec.ofChange meanRelationWrong)

/-- 'gatehouselaw08.MeanDenyWins': WHATEVER THE INPUT: true; the input reads as it did. -/
def meanDenyWinsSpec : ChangeSpec := { name := "meanDenyWins", fn := fun _ => fun
  | [d] => { results := [.lit (.bool true)], args := [d] }
  | _ => none }
def meanDenyWinsRow : OpenClaim := { program := "ytnkdcekddhmjnaa", sum := "7446f37e275fb5d96881aee30efec2d22c0c13465a47c084f29670f5a904caa8", func := "gatehouse/gatehouselaw08.MeanDenyWins", spec := "meanDenyWins", unfollowed := true, recurses := true, apart := false }
def MeanDenyWinsSaid : Prop := meanDenyWinsRow.holds Try.pinned (OpenSpec.ofChange meanDenyWinsSpec)

/-- ITS FALSE NEIGHBOUR: 'it returns false'. Refute it at one input. -/
def meanDenyWinsWrong : ChangeSpec := { name := "meanDenyWins", fn := fun _ => fun
  | [d] => { results := [.lit (.bool false)], args := [d] }
  | _ => none }
def MeanDenyWinsWrongFalsely : Prop := meanDenyWinsRow.holds Try.pinned (OpenSpec.ofChange meanDenyWinsWrong)

/-- 'gatehouselaw08.MeanOrder': WHATEVER THE INPUT: true; the input reads as it did. -/
def meanOrderSpec : ChangeSpec := { name := "meanOrder", fn := fun _ => fun
  | [d1, d2] => { results := [.lit (.bool true)], args := [d1, d2] }
  | _ => none }
def meanOrderRow : OpenClaim := { program := "ytnkdcekddhmjnaa", sum := "7446f37e275fb5d96881aee30efec2d22c0c13465a47c084f29670f5a904caa8", func := "gatehouse/gatehouselaw08.MeanOrder", spec := "meanOrder", unfollowed := true, recurses := true, apart := false }
def MeanOrderSaid : Prop := meanOrderRow.holds Try.pinned (OpenSpec.ofChange meanOrderSpec)

/-- ITS FALSE NEIGHBOUR: 'it returns false'. Refute it at one input. -/
def meanOrderWrong : ChangeSpec := { name := "meanOrder", fn := fun _ => fun
  | [d1, d2] => { results := [.lit (.bool false)], args := [d1, d2] }
  | _ => none }
def MeanOrderWrongFalsely : Prop := meanOrderRow.holds Try.pinned (OpenSpec.ofChange meanOrderWrong)

/-- 'gatehouselaw08.MeanMore': WHATEVER THE INPUT: true; the input reads as it did. -/
def meanMoreSpec : ChangeSpec := { name := "meanMore", fn := fun _ => fun
  | [d1, d2] => { results := [.lit (.bool true)], args := [d1, d2] }
  | _ => none }
def meanMoreRow : OpenClaim := { program := "ytnkdcekddhmjnaa", sum := "7446f37e275fb5d96881aee30efec2d22c0c13465a47c084f29670f5a904caa8", func := "gatehouse/gatehouselaw08.MeanMore", spec := "meanMore", unfollowed := true, recurses := true, apart := false }
def MeanMoreSaid : Prop := meanMoreRow.holds Try.pinned (OpenSpec.ofChange meanMoreSpec)

/-- ITS FALSE NEIGHBOUR: 'it returns false'. Refute it at one input. -/
def meanMoreWrong : ChangeSpec := { name := "meanMore", fn := fun _ => fun
  | [d1, d2] => { results := [.lit (.bool false)], args := [d1, d2] }
  | _ => none }
def MeanMoreWrongFalsely : Prop := meanMoreRow.holds Try.pinned (OpenSpec.ofChange meanMoreWrong)

/-- 'gatehouselaw08.MeanExcept': WHATEVER THE INPUT: true; the input reads as it did. -/
def meanExceptSpec : ChangeSpec := { name := "meanExcept", fn := fun _ => fun
  | [d1, d2] => { results := [.lit (.bool true)], args := [d1, d2] }
  | _ => none }
def meanExceptRow : OpenClaim := { program := "ytnkdcekddhmjnaa", sum := "7446f37e275fb5d96881aee30efec2d22c0c13465a47c084f29670f5a904caa8", func := "gatehouse/gatehouselaw08.MeanExcept", spec := "meanExcept", unfollowed := true, recurses := true, apart := false }
def MeanExceptSaid : Prop := meanExceptRow.holds Try.pinned (OpenSpec.ofChange meanExceptSpec)

/-- ITS FALSE NEIGHBOUR: 'it returns false'. Refute it at one input. -/
def meanExceptWrong : ChangeSpec := { name := "meanExcept", fn := fun _ => fun
  | [d1, d2] => { results := [.lit (.bool false)], args := [d1, d2] }
  | _ => none }
def MeanExceptWrongFalsely : Prop := meanExceptRow.holds Try.pinned (OpenSpec.ofChange meanExceptWrong)

/-- 'gatehouselaw08.MeanUnknown': WHATEVER THE INPUT: true; the input reads as it did. -/
def meanUnknownSpec : ChangeSpec := { name := "meanUnknown", fn := fun _ => fun
  | [d1, d2, d3] => { results := [.lit (.bool true)], args := [d1, d2, d3] }
  | _ => none }
def meanUnknownRow : OpenClaim := { program := "ytnkdcekddhmjnaa", sum := "7446f37e275fb5d96881aee30efec2d22c0c13465a47c084f29670f5a904caa8", func := "gatehouse/gatehouselaw08.MeanUnknown", spec := "meanUnknown", unfollowed := true, recurses := true, apart := false }
def MeanUnknownSaid : Prop := meanUnknownRow.holds Try.pinned (OpenSpec.ofChange meanUnknownSpec)

/-- ITS FALSE NEIGHBOUR: 'it returns false'. Refute it at one input. -/
def meanUnknownWrong : ChangeSpec := { name := "meanUnknown", fn := fun _ => fun
  | [d1, d2, d3] => { results := [.lit (.bool false)], args := [d1, d2, d3] }
  | _ => none }
def MeanUnknownWrongFalsely : Prop := meanUnknownRow.holds Try.pinned (OpenSpec.ofChange meanUnknownWrong)

/-- 'gatehouselaw08.MeanFaces': WHATEVER THE INPUT: true; the input reads as it did. -/
def meanFacesSpec : ChangeSpec := { name := "meanFaces", fn := fun _ => fun
  | [d] => { results := [.lit (.bool true)], args := [d] }
  | _ => none }
def meanFacesRow : OpenClaim := { program := "ytnkdcekddhmjnaa", sum := "7446f37e275fb5d96881aee30efec2d22c0c13465a47c084f29670f5a904caa8", func := "gatehouse/gatehouselaw08.MeanFaces", spec := "meanFaces", unfollowed := true, recurses := true, apart := false }
def MeanFacesSaid : Prop := meanFacesRow.holds Try.pinned (OpenSpec.ofChange meanFacesSpec)

/-- ITS FALSE NEIGHBOUR: 'it returns false'. Refute it at one input. -/
def meanFacesWrong : ChangeSpec := { name := "meanFaces", fn := fun _ => fun
  | [d] => { results := [.lit (.bool false)], args := [d] }
  | _ => none }
def MeanFacesWrongFalsely : Prop := meanFacesRow.holds Try.pinned (OpenSpec.ofChange meanFacesWrong)

/-- 'gatehouselaw08.MeanReach': WHATEVER THE INPUT: true; the input reads as it did. -/
def meanReachSpec : ChangeSpec := { name := "meanReach", fn := fun _ => fun
  | [d1, d2, d3] => { results := [.lit (.bool true)], args := [d1, d2, d3] }
  | _ => none }
def meanReachRow : OpenClaim := { program := "ytnkdcekddhmjnaa", sum := "7446f37e275fb5d96881aee30efec2d22c0c13465a47c084f29670f5a904caa8", func := "gatehouse/gatehouselaw08.MeanReach", spec := "meanReach", unfollowed := true, recurses := true, apart := false }
def MeanReachSaid : Prop := meanReachRow.holds Try.pinned (OpenSpec.ofChange meanReachSpec)

/-- ITS FALSE NEIGHBOUR: 'it returns false'. Refute it at one input. -/
def meanReachWrong : ChangeSpec := { name := "meanReach", fn := fun _ => fun
  | [d1, d2, d3] => { results := [.lit (.bool false)], args := [d1, d2, d3] }
  | _ => none }
def MeanReachWrongFalsely : Prop := meanReachRow.holds Try.pinned (OpenSpec.ofChange meanReachWrong)

/- THE SECOND FORM. 'bulk': how many values and letters a reading holds, each counted each time it is reached (what is shared counts as often as it is met; a slice's spare places count too). A statement '..UptoSaid' is the law's where the arguments, and the package variables that the reading takes, are together of bulk at most 1048576: NARROWER than '..Said'. Prove '..Said' where nothing that the law and all that it calls make is longer than what came in: it says more and counts as full. Else prove '..UptoSaid'. A law counts once. -/
mutual
def uptoBulk {H : Type} : DataW H → Nat
  | .lit (.string bytes) => bytes.length + 1
  | .lit _ => 1
  | .nil => 1
  | .ptr d => uptoBulk d + 1
  | .slice elems spare => uptoBulkAll elems + uptoBulkAll spare + 1
  | .agg parts => uptoBulkAll parts + 1
  | .iface _ d => uptoBulk d + 1
  | .map entries => uptoBulkEntries entries + 1
  | .held _ => 1
def uptoBulkAll {H : Type} : List (DataW H) → Nat
  | [] => 0
  | d :: r => uptoBulk d + uptoBulkAll r
def uptoBulkEntries {H : Type} : List (Lit × DataW H) → Nat
  | [] => 0
  | x :: r => uptoBulkEntry x + uptoBulkEntries r
def uptoBulkEntry {H : Type} : Lit × DataW H → Nat
  | (.string bytes, d) => bytes.length + uptoBulk d + 1
  | (_, d) => uptoBulk d + 1
 end
def uptoSmall : (H : Type) → List (DataW H) → Bool := fun _ ds => decide (uptoBulkAll ds ≤ 1048576)
def OpenSpec.upto (s : _root_.Go.ChangeSpec) : _root_.Go.OpenSpec := { _root_.Go.OpenSpec.ofChange s with cond := some uptoSmall }

/-- 'gatehouselaw08.MeanNames', WHERE WHAT IT READS IS OF BULK AT MOST 1048576: true; the input reads as it did. -/
def meanNamesUptoRow : OpenClaim := { program := "ytnkdcekddhmjnaa", sum := "7446f37e275fb5d96881aee30efec2d22c0c13465a47c084f29670f5a904caa8", func := "gatehouse/gatehouselaw08.MeanNames", spec := "meanNames", apart := false, narrowed := true }
def MeanNamesUptoSaid : Prop := meanNamesUptoRow.holds Try.pinned (OpenSpec.upto meanNamesSpec)

/-- 'gatehouselaw08.MeanPasses', WHERE WHAT IT READS IS OF BULK AT MOST 1048576: true; the input reads as it did. -/
def meanPassesUptoRow : OpenClaim := { program := "ytnkdcekddhmjnaa", sum := "7446f37e275fb5d96881aee30efec2d22c0c13465a47c084f29670f5a904caa8", func := "gatehouse/gatehouselaw08.MeanPasses", spec := "meanPasses", apart := false, narrowed := true }
def MeanPassesUptoSaid : Prop := meanPassesUptoRow.holds Try.pinned (OpenSpec.upto meanPassesSpec)

/-- 'gatehouselaw08.MeanMatches', WHERE WHAT IT READS IS OF BULK AT MOST 1048576: true; the input reads as it did. -/
def meanMatchesUptoRow : OpenClaim := { program := "ytnkdcekddhmjnaa", sum := "7446f37e275fb5d96881aee30efec2d22c0c13465a47c084f29670f5a904caa8", func := "gatehouse/gatehouselaw08.MeanMatches", spec := "meanMatches", unfollowed := true, recurses := true, apart := false, narrowed := true }
def MeanMatchesUptoSaid : Prop := meanMatchesUptoRow.holds Try.pinned (OpenSpec.upto meanMatchesSpec)

/-- 'gatehouselaw08.MeanAllows', WHERE WHAT IT READS IS OF BULK AT MOST 1048576: true; the input reads as it did. -/
def meanAllowsUptoRow : OpenClaim := { program := "ytnkdcekddhmjnaa", sum := "7446f37e275fb5d96881aee30efec2d22c0c13465a47c084f29670f5a904caa8", func := "gatehouse/gatehouselaw08.MeanAllows", spec := "meanAllows", unfollowed := true, recurses := true, apart := false, narrowed := true }
def MeanAllowsUptoSaid : Prop := meanAllowsUptoRow.holds Try.pinned (OpenSpec.upto meanAllowsSpec)

/-- 'gatehouselaw08.MeanMask', WHERE WHAT IT READS IS OF BULK AT MOST 1048576: true; the input reads as it did. -/
def meanMaskUptoRow : OpenClaim := { program := "ytnkdcekddhmjnaa", sum := "7446f37e275fb5d96881aee30efec2d22c0c13465a47c084f29670f5a904caa8", func := "gatehouse/gatehouselaw08.MeanMask", spec := "meanMask", unfollowed := true, recurses := true, apart := false, narrowed := true }
def MeanMaskUptoSaid : Prop := meanMaskUptoRow.holds Try.pinned (OpenSpec.upto meanMaskSpec)

/-- 'gatehouselaw08.MeanRelation', WHERE WHAT IT READS IS OF BULK AT MOST 1048576: true; the input reads as it did. -/
def meanRelationUptoRow : OpenClaim := { program := "ytnkdcekddhmjnaa", sum := "7446f37e275fb5d96881aee30efec2d22c0c13465a47c084f29670f5a904caa8", func := "gatehouse/gatehouselaw08.MeanRelation", spec := "meanRelation", unfollowed := true, recurses := true, apart := false, narrowed := true }
def MeanRelationUptoSaid : Prop := meanRelationUptoRow.holds Try.pinned (OpenSpec.upto meanRelationSpec)

/-- 'gatehouselaw08.MeanDenyWins', WHERE WHAT IT READS IS OF BULK AT MOST 1048576: true; the input reads as it did. -/
def meanDenyWinsUptoRow : OpenClaim := { program := "ytnkdcekddhmjnaa", sum := "7446f37e275fb5d96881aee30efec2d22c0c13465a47c084f29670f5a904caa8", func := "gatehouse/gatehouselaw08.MeanDenyWins", spec := "meanDenyWins", unfollowed := true, recurses := true, apart := false, narrowed := true }
def MeanDenyWinsUptoSaid : Prop := meanDenyWinsUptoRow.holds Try.pinned (OpenSpec.upto meanDenyWinsSpec)

/-- 'gatehouselaw08.MeanOrder', WHERE WHAT IT READS IS OF BULK AT MOST 1048576: true; the input reads as it did. -/
def meanOrderUptoRow : OpenClaim := { program := "ytnkdcekddhmjnaa", sum := "7446f37e275fb5d96881aee30efec2d22c0c13465a47c084f29670f5a904caa8", func := "gatehouse/gatehouselaw08.MeanOrder", spec := "meanOrder", unfollowed := true, recurses := true, apart := false, narrowed := true }
def MeanOrderUptoSaid : Prop := meanOrderUptoRow.holds Try.pinned (OpenSpec.upto meanOrderSpec)

/-- 'gatehouselaw08.MeanMore', WHERE WHAT IT READS IS OF BULK AT MOST 1048576: true; the input reads as it did. -/
def meanMoreUptoRow : OpenClaim := { program := "ytnkdcekddhmjnaa", sum := "7446f37e275fb5d96881aee30efec2d22c0c13465a47c084f29670f5a904caa8", func := "gatehouse/gatehouselaw08.MeanMore", spec := "meanMore", unfollowed := true, recurses := true, apart := false, narrowed := true }
def MeanMoreUptoSaid : Prop := meanMoreUptoRow.holds Try.pinned (OpenSpec.upto meanMoreSpec)

/-- 'gatehouselaw08.MeanExcept', WHERE WHAT IT READS IS OF BULK AT MOST 1048576: true; the input reads as it did. -/
def meanExceptUptoRow : OpenClaim := { program := "ytnkdcekddhmjnaa", sum := "7446f37e275fb5d96881aee30efec2d22c0c13465a47c084f29670f5a904caa8", func := "gatehouse/gatehouselaw08.MeanExcept", spec := "meanExcept", unfollowed := true, recurses := true, apart := false, narrowed := true }
def MeanExceptUptoSaid : Prop := meanExceptUptoRow.holds Try.pinned (OpenSpec.upto meanExceptSpec)

/-- 'gatehouselaw08.MeanUnknown', WHERE WHAT IT READS IS OF BULK AT MOST 1048576: true; the input reads as it did. -/
def meanUnknownUptoRow : OpenClaim := { program := "ytnkdcekddhmjnaa", sum := "7446f37e275fb5d96881aee30efec2d22c0c13465a47c084f29670f5a904caa8", func := "gatehouse/gatehouselaw08.MeanUnknown", spec := "meanUnknown", unfollowed := true, recurses := true, apart := false, narrowed := true }
def MeanUnknownUptoSaid : Prop := meanUnknownUptoRow.holds Try.pinned (OpenSpec.upto meanUnknownSpec)

/-- 'gatehouselaw08.MeanFaces', WHERE WHAT IT READS IS OF BULK AT MOST 1048576: true; the input reads as it did. -/
def meanFacesUptoRow : OpenClaim := { program := "ytnkdcekddhmjnaa", sum := "7446f37e275fb5d96881aee30efec2d22c0c13465a47c084f29670f5a904caa8", func := "gatehouse/gatehouselaw08.MeanFaces", spec := "meanFaces", unfollowed := true, recurses := true, apart := false, narrowed := true }
def MeanFacesUptoSaid : Prop := meanFacesUptoRow.holds Try.pinned (OpenSpec.upto meanFacesSpec)

/-- 'gatehouselaw08.MeanReach', WHERE WHAT IT READS IS OF BULK AT MOST 1048576: true; the input reads as it did. -/
def meanReachUptoRow : OpenClaim := { program := "ytnkdcekddhmjnaa", sum := "7446f37e275fb5d96881aee30efec2d22c0c13465a47c084f29670f5a904caa8", func := "gatehouse/gatehouselaw08.MeanReach", spec := "meanReach", unfollowed := true, recurses := true, apart := false, narrowed := true }
def MeanReachUptoSaid : Prop := meanReachUptoRow.holds Try.pinned (OpenSpec.upto meanReachSpec)

end Rows
end Go.Proofs.Ytnkdcekddhmjnaa
