/-
  DERIVED. GIVEN WITH THE SEED: THE CARDS: each row of YtplofcianjnkmabDoorRows.lean that lists a variable, with what it lists TIED to the program's text (the seventh form; the later family's looks); each row that meets fmt, with fmt's text TOLD by the authors' own Lean function (tested against real Go, not proved from fmt's source: count such statements apart). THE CARD IS WHAT COUNTS. Prove the row's statement (the work); the ties are given (YtplofcianjnkmabDoorTie.lean); close each card by the builder's one call (the guide's Derived/Test/ToyasCard.lean, 'card_holds'). Laid BY PROGRAM, IN A SANDBOX (cutbox-door.mjs). By AI agents, Wed Nov 11 2026. No macro, syntax, notation, axiom, sorry.
-/
import Derived.Test.YtplofcianjnkmabDoorRows
import GoSem.ClaimSeven
namespace Go.Proofs.YtplofcianjnkmabDoor
namespace Rows

/-- THE TIED CARD OF 'surdlaw09.RoundedNames'. -/
def roundedNamesCard : Claim7 := { stood := { row := roundedNamesRow, standIns := [], harness := (true, "b928c96c44bde2de12956918752f4eee569f1f15c04d8ec4194373bc3354bd7e"), looks := false }, kinds := [], alts := [], laidByText := true, laidKinds := [.data], laidTests := true, laidLooks := .later }
def RoundedNamesCardSaid : Prop := Claim7.holds Tryd.pinned (.plain (OpenSpec.ofChange roundedNamesSpec)) roundedNamesCard

/-- THE TIED CARD OF 'surdlaw09.RoundedSides'. -/
def roundedSidesCard : Claim7 := { stood := { row := roundedSidesRow, standIns := [], harness := (true, "b928c96c44bde2de12956918752f4eee569f1f15c04d8ec4194373bc3354bd7e"), looks := false }, kinds := [], alts := [], laidByText := true, laidKinds := [.data], laidTests := true, laidLooks := .later }
def RoundedSidesCardSaid : Prop := Claim7.holds Tryd.pinned (.plain (OpenSpec.ofChange roundedSidesSpec)) roundedSidesCard

/-- THE TIED CARD OF 'surdlaw09.RoundedRoots'. -/
def roundedRootsCard : Claim7 := { stood := { row := roundedRootsRow, standIns := [], harness := (true, "b928c96c44bde2de12956918752f4eee569f1f15c04d8ec4194373bc3354bd7e"), looks := false }, kinds := [], alts := [], laidByText := true, laidKinds := [.data], laidTests := true, laidLooks := .later }
def RoundedRootsCardSaid : Prop := Claim7.holds Tryd.pinned (.plain (OpenSpec.ofChange roundedRootsSpec)) roundedRootsCard

/-- THE SECOND FORM's CARD OF 'surdlaw09.RoundedNames'. -/
def roundedNamesUptoCard : Claim7 := { stood := { row := roundedNamesUptoRow, standIns := [], harness := (true, "b928c96c44bde2de12956918752f4eee569f1f15c04d8ec4194373bc3354bd7e"), looks := false }, kinds := [], alts := [], laidByText := true, laidKinds := [.data], laidTests := true, laidLooks := .later }
def RoundedNamesUptoCardSaid : Prop := Claim7.holds Tryd.pinned (.plain (OpenSpec.upto roundedNamesSpec)) roundedNamesUptoCard

/-- THE SECOND FORM's CARD OF 'surdlaw09.RoundedSides'. -/
def roundedSidesUptoCard : Claim7 := { stood := { row := roundedSidesUptoRow, standIns := [], harness := (true, "b928c96c44bde2de12956918752f4eee569f1f15c04d8ec4194373bc3354bd7e"), looks := false }, kinds := [], alts := [], laidByText := true, laidKinds := [.data], laidTests := true, laidLooks := .later }
def RoundedSidesUptoCardSaid : Prop := Claim7.holds Tryd.pinned (.plain (OpenSpec.upto roundedSidesSpec)) roundedSidesUptoCard

/-- THE SECOND FORM's CARD OF 'surdlaw09.RoundedRoots'. -/
def roundedRootsUptoCard : Claim7 := { stood := { row := roundedRootsUptoRow, standIns := [], harness := (true, "b928c96c44bde2de12956918752f4eee569f1f15c04d8ec4194373bc3354bd7e"), looks := false }, kinds := [], alts := [], laidByText := true, laidKinds := [.data], laidTests := true, laidLooks := .later }
def RoundedRootsUptoCardSaid : Prop := Claim7.holds Tryd.pinned (.plain (OpenSpec.upto roundedRootsSpec)) roundedRootsUptoCard
end Rows
end Go.Proofs.YtplofcianjnkmabDoor
