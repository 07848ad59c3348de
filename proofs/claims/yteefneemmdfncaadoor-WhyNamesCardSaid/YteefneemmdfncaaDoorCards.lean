/-
  DERIVED. GIVEN WITH THE SEED: THE CARDS: each row of YteefneemmdfncaaDoorRows.lean that lists a variable, with what it lists TIED to the program's text (the seventh form; the later family's looks); each row that meets fmt, with fmt's text TOLD by the authors' own Lean function (tested against real Go, not proved from fmt's source: count such statements apart). THE CARD IS WHAT COUNTS. Prove the row's statement (the work); the ties are given (YteefneemmdfncaaDoorTie.lean); close each card by the builder's one call (the guide's Derived/Test/ToyasCard.lean, 'card_holds'). Laid BY PROGRAM, IN A SANDBOX (cutbox-door.mjs). By AI agents, Wed Nov 11 2026. No macro, syntax, notation, axiom, sorry.
-/
import Derived.Test.YteefneemmdfncaaDoorRows
import GoSem.ClaimSeven
namespace Go.Proofs.YteefneemmdfncaaDoor
namespace Rows

/-- THE TIED CARD OF 'gatehouselaw10.WhyTell'. -/
def whyTellCard : Claim7 := { stood := { row := whyTellRow, standIns := [], harness := (true, "31b083864a562e0c7a1941a7ac05d0924587fc90710243a90f0026cd4ed992d0"), looks := false }, kinds := [], alts := [], laidByText := true, laidKinds := [.data, .data, .data], laidTests := true, laidLooks := .later }
def WhyTellCardSaid : Prop := Claim7.holds Tryd.pinned (.plain (OpenSpec.ofChange whyTellSpec)) whyTellCard

/-- THE TIED CARD OF 'gatehouselaw10.WhyNames'. -/
def whyNamesCard : Claim7 := { stood := { row := whyNamesRow, standIns := [], harness := (true, "31b083864a562e0c7a1941a7ac05d0924587fc90710243a90f0026cd4ed992d0"), looks := false }, kinds := [], alts := [], laidByText := true, laidKinds := [.data, .data, .data], laidTests := true, laidLooks := .later }
def WhyNamesCardSaid : Prop := Claim7.holds Tryd.pinned (.plain (OpenSpec.ofChange whyNamesSpec)) whyNamesCard

/-- THE TIED CARD OF 'gatehouselaw10.WhySound'. -/
def whySoundCard : Claim7 := { stood := { row := whySoundRow, standIns := [], harness := (true, "31b083864a562e0c7a1941a7ac05d0924587fc90710243a90f0026cd4ed992d0"), looks := false }, kinds := [], alts := [], laidByText := true, laidKinds := [.data, .data, .data], laidTests := true, laidLooks := .later }
def WhySoundCardSaid : Prop := Claim7.holds Tryd.pinned (.plain (OpenSpec.ofChange whySoundSpec)) whySoundCard

/-- THE TIED CARD OF 'gatehouselaw10.WhyChecked'. -/
def whyCheckedCard : Claim7 := { stood := { row := whyCheckedRow, standIns := [], harness := (true, "31b083864a562e0c7a1941a7ac05d0924587fc90710243a90f0026cd4ed992d0"), looks := false }, kinds := [], alts := [], laidByText := true, laidKinds := [.data, .data, .data], laidTests := true, laidLooks := .later }
def WhyCheckedCardSaid : Prop := Claim7.holds Tryd.pinned (.plain (OpenSpec.ofChange whyCheckedSpec)) whyCheckedCard

/-- THE TIED CARD OF 'gatehouselaw10.WhyFirst'. -/
def whyFirstCard : Claim7 := { stood := { row := whyFirstRow, standIns := [], harness := (true, "31b083864a562e0c7a1941a7ac05d0924587fc90710243a90f0026cd4ed992d0"), looks := false }, kinds := [], alts := [], laidByText := true, laidKinds := [.data, .data, .data], laidTests := true, laidLooks := .later }
def WhyFirstCardSaid : Prop := Claim7.holds Tryd.pinned (.plain (OpenSpec.ofChange whyFirstSpec)) whyFirstCard

/-- THE TIED CARD OF 'gatehouselaw10.WhyAll'. -/
def whyAllCard : Claim7 := { stood := { row := whyAllRow, standIns := [], harness := (true, "31b083864a562e0c7a1941a7ac05d0924587fc90710243a90f0026cd4ed992d0"), looks := false }, kinds := [], alts := [], laidByText := true, laidKinds := [.data, .data, .data], laidTests := true, laidLooks := .later }
def WhyAllCardSaid : Prop := Claim7.holds Tryd.pinned (.plain (OpenSpec.ofChange whyAllSpec)) whyAllCard

/-- THE SECOND FORM's CARD OF 'gatehouselaw10.WhyTell'. -/
def whyTellUptoCard : Claim7 := { stood := { row := whyTellUptoRow, standIns := [], harness := (true, "31b083864a562e0c7a1941a7ac05d0924587fc90710243a90f0026cd4ed992d0"), looks := false }, kinds := [], alts := [], laidByText := true, laidKinds := [.data, .data, .data], laidTests := true, laidLooks := .later }
def WhyTellUptoCardSaid : Prop := Claim7.holds Tryd.pinned (.plain (OpenSpec.upto whyTellSpec)) whyTellUptoCard

/-- THE SECOND FORM's CARD OF 'gatehouselaw10.WhyNames'. -/
def whyNamesUptoCard : Claim7 := { stood := { row := whyNamesUptoRow, standIns := [], harness := (true, "31b083864a562e0c7a1941a7ac05d0924587fc90710243a90f0026cd4ed992d0"), looks := false }, kinds := [], alts := [], laidByText := true, laidKinds := [.data, .data, .data], laidTests := true, laidLooks := .later }
def WhyNamesUptoCardSaid : Prop := Claim7.holds Tryd.pinned (.plain (OpenSpec.upto whyNamesSpec)) whyNamesUptoCard

/-- THE SECOND FORM's CARD OF 'gatehouselaw10.WhySound'. -/
def whySoundUptoCard : Claim7 := { stood := { row := whySoundUptoRow, standIns := [], harness := (true, "31b083864a562e0c7a1941a7ac05d0924587fc90710243a90f0026cd4ed992d0"), looks := false }, kinds := [], alts := [], laidByText := true, laidKinds := [.data, .data, .data], laidTests := true, laidLooks := .later }
def WhySoundUptoCardSaid : Prop := Claim7.holds Tryd.pinned (.plain (OpenSpec.upto whySoundSpec)) whySoundUptoCard

/-- THE SECOND FORM's CARD OF 'gatehouselaw10.WhyChecked'. -/
def whyCheckedUptoCard : Claim7 := { stood := { row := whyCheckedUptoRow, standIns := [], harness := (true, "31b083864a562e0c7a1941a7ac05d0924587fc90710243a90f0026cd4ed992d0"), looks := false }, kinds := [], alts := [], laidByText := true, laidKinds := [.data, .data, .data], laidTests := true, laidLooks := .later }
def WhyCheckedUptoCardSaid : Prop := Claim7.holds Tryd.pinned (.plain (OpenSpec.upto whyCheckedSpec)) whyCheckedUptoCard

/-- THE SECOND FORM's CARD OF 'gatehouselaw10.WhyFirst'. -/
def whyFirstUptoCard : Claim7 := { stood := { row := whyFirstUptoRow, standIns := [], harness := (true, "31b083864a562e0c7a1941a7ac05d0924587fc90710243a90f0026cd4ed992d0"), looks := false }, kinds := [], alts := [], laidByText := true, laidKinds := [.data, .data, .data], laidTests := true, laidLooks := .later }
def WhyFirstUptoCardSaid : Prop := Claim7.holds Tryd.pinned (.plain (OpenSpec.upto whyFirstSpec)) whyFirstUptoCard

/-- THE SECOND FORM's CARD OF 'gatehouselaw10.WhyAll'. -/
def whyAllUptoCard : Claim7 := { stood := { row := whyAllUptoRow, standIns := [], harness := (true, "31b083864a562e0c7a1941a7ac05d0924587fc90710243a90f0026cd4ed992d0"), looks := false }, kinds := [], alts := [], laidByText := true, laidKinds := [.data, .data, .data], laidTests := true, laidLooks := .later }
def WhyAllUptoCardSaid : Prop := Claim7.holds Tryd.pinned (.plain (OpenSpec.upto whyAllSpec)) whyAllUptoCard
end Rows
end Go.Proofs.YteefneemmdfncaaDoor
