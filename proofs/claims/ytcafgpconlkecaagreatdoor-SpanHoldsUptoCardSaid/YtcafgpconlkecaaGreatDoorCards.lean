/-
  DERIVED. GIVEN WITH THE SEED: THE CARDS: each row of YtcafgpconlkecaaGreatDoorRows.lean that lists a variable, with what it lists TIED to the program's text (the seventh form; the later family's looks); each row that meets fmt, with fmt's text TOLD by the authors' own Lean function (tested against real Go, not proved from fmt's source: count such statements apart). THE CARD IS WHAT COUNTS. Prove the row's statement (the work); the ties are given (YtcafgpconlkecaaGreatDoorTie.lean); close each card by the builder's one call (the guide's Derived/Test/ToyasCard.lean, 'card_holds'). Laid BY PROGRAM, IN A SANDBOX (cutbox-door.mjs). By AI agents, Wed Nov 11 2026. No macro, syntax, notation, axiom, sorry.
-/
import Derived.Test.YtcafgpconlkecaaGreatDoorRows
import GoSem.ClaimSeven
namespace Go.Proofs.YtcafgpconlkecaaGreatDoor
namespace Rows

/-- THE TIED CARD OF 'surdlaw10.SpanPolys'. -/
def spanPolysCard : Claim7 := { stood := { row := spanPolysRow, standIns := [], harness := (true, "2c94373a0f5fc58d993a1bd5f923aa6d1f9d47f0ed18c58b4e4d24a8100afa47"), looks := false }, kinds := [], alts := [], laidByText := true, laidKinds := [.data], laidTests := true, laidLooks := .later }
def SpanPolysCardSaid : Prop := Claim7.holds Tryz.pinned (.plain (OpenSpec.ofChange spanPolysSpec)) spanPolysCard

/-- THE TIED CARD OF 'surdlaw10.SpanZeros'. -/
def spanZerosCard : Claim7 := { stood := { row := spanZerosRow, standIns := [], harness := (true, "2c94373a0f5fc58d993a1bd5f923aa6d1f9d47f0ed18c58b4e4d24a8100afa47"), looks := false }, kinds := [], alts := [], laidByText := true, laidKinds := [.data], laidTests := true, laidLooks := .later }
def SpanZerosCardSaid : Prop := Claim7.holds Tryz.pinned (.plain (OpenSpec.ofChange spanZerosSpec)) spanZerosCard

/-- THE TIED CARD OF 'surdlaw10.SpanFinds'. -/
def spanFindsCard : Claim7 := { stood := { row := spanFindsRow, standIns := [], harness := (true, "2c94373a0f5fc58d993a1bd5f923aa6d1f9d47f0ed18c58b4e4d24a8100afa47"), looks := false }, kinds := [], alts := [], laidByText := true, laidKinds := [.data], laidTests := true, laidLooks := .later }
def SpanFindsCardSaid : Prop := Claim7.holds Tryz.pinned (.plain (OpenSpec.ofChange spanFindsSpec)) spanFindsCard

/-- THE TIED CARD OF 'surdlaw10.SpanHolds'. -/
def spanHoldsCard : Claim7 := { stood := { row := spanHoldsRow, standIns := [], harness := (true, "2c94373a0f5fc58d993a1bd5f923aa6d1f9d47f0ed18c58b4e4d24a8100afa47"), looks := false }, kinds := [], alts := [], laidByText := true, laidKinds := [.data], laidTests := true, laidLooks := .later }
def SpanHoldsCardSaid : Prop := Claim7.holds Tryz.pinned (.plain (OpenSpec.ofChange spanHoldsSpec)) spanHoldsCard

/-- THE TIED CARD OF 'surdlaw10.SpanLaws'. -/
def spanLawsCard : Claim7 := { stood := { row := spanLawsRow, standIns := [], harness := (true, "2c94373a0f5fc58d993a1bd5f923aa6d1f9d47f0ed18c58b4e4d24a8100afa47"), looks := false }, kinds := [], alts := [], laidByText := true, laidKinds := [.data], laidTests := true, laidLooks := .later }
def SpanLawsCardSaid : Prop := Claim7.holds Tryz.pinned (.plain (OpenSpec.ofChange spanLawsSpec)) spanLawsCard

/-- THE SECOND FORM's CARD OF 'surdlaw10.SpanPolys'. -/
def spanPolysUptoCard : Claim7 := { stood := { row := spanPolysUptoRow, standIns := [], harness := (true, "2c94373a0f5fc58d993a1bd5f923aa6d1f9d47f0ed18c58b4e4d24a8100afa47"), looks := false }, kinds := [], alts := [], laidByText := true, laidKinds := [.data], laidTests := true, laidLooks := .later }
def SpanPolysUptoCardSaid : Prop := Claim7.holds Tryz.pinned (.plain (OpenSpec.upto spanPolysSpec)) spanPolysUptoCard

/-- THE SECOND FORM's CARD OF 'surdlaw10.SpanZeros'. -/
def spanZerosUptoCard : Claim7 := { stood := { row := spanZerosUptoRow, standIns := [], harness := (true, "2c94373a0f5fc58d993a1bd5f923aa6d1f9d47f0ed18c58b4e4d24a8100afa47"), looks := false }, kinds := [], alts := [], laidByText := true, laidKinds := [.data], laidTests := true, laidLooks := .later }
def SpanZerosUptoCardSaid : Prop := Claim7.holds Tryz.pinned (.plain (OpenSpec.upto spanZerosSpec)) spanZerosUptoCard

/-- THE SECOND FORM's CARD OF 'surdlaw10.SpanFinds'. -/
def spanFindsUptoCard : Claim7 := { stood := { row := spanFindsUptoRow, standIns := [], harness := (true, "2c94373a0f5fc58d993a1bd5f923aa6d1f9d47f0ed18c58b4e4d24a8100afa47"), looks := false }, kinds := [], alts := [], laidByText := true, laidKinds := [.data], laidTests := true, laidLooks := .later }
def SpanFindsUptoCardSaid : Prop := Claim7.holds Tryz.pinned (.plain (OpenSpec.upto spanFindsSpec)) spanFindsUptoCard

/-- THE SECOND FORM's CARD OF 'surdlaw10.SpanHolds'. -/
def spanHoldsUptoCard : Claim7 := { stood := { row := spanHoldsUptoRow, standIns := [], harness := (true, "2c94373a0f5fc58d993a1bd5f923aa6d1f9d47f0ed18c58b4e4d24a8100afa47"), looks := false }, kinds := [], alts := [], laidByText := true, laidKinds := [.data], laidTests := true, laidLooks := .later }
def SpanHoldsUptoCardSaid : Prop := Claim7.holds Tryz.pinned (.plain (OpenSpec.upto spanHoldsSpec)) spanHoldsUptoCard

/-- THE SECOND FORM's CARD OF 'surdlaw10.SpanLaws'. -/
def spanLawsUptoCard : Claim7 := { stood := { row := spanLawsUptoRow, standIns := [], harness := (true, "2c94373a0f5fc58d993a1bd5f923aa6d1f9d47f0ed18c58b4e4d24a8100afa47"), looks := false }, kinds := [], alts := [], laidByText := true, laidKinds := [.data], laidTests := true, laidLooks := .later }
def SpanLawsUptoCardSaid : Prop := Claim7.holds Tryz.pinned (.plain (OpenSpec.upto spanLawsSpec)) spanLawsUptoCard
end Rows
end Go.Proofs.YtcafgpconlkecaaGreatDoor
