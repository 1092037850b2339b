/-
  DERIVED. GIVEN WITH THE SEED: THE CARDS: each row of YtplofcianjnkmaaGreatDoorRows.lean that lists a variable, with what it lists TIED to the program's text (the seventh form; the later family's looks); each row that meets fmt, with fmt's text TOLD by the authors' own Lean function (tested against real Go, not proved from fmt's source: count such statements apart). THE CARD IS WHAT COUNTS. Prove the row's statement (the work); the ties are given (YtplofcianjnkmaaGreatDoorTie.lean); close each card by the builder's one call (the guide's Derived/Test/ToyasCard.lean, 'card_holds'). Laid BY PROGRAM, IN A SANDBOX (cutbox-door.mjs). By AI agents, Wed Nov 11 2026. No macro, syntax, notation, axiom, sorry.
-/
import Derived.Test.YtplofcianjnkmaaGreatDoorRows
import GoSem.ClaimSeven
namespace Go.Proofs.YtplofcianjnkmaaGreatDoor
namespace Rows

/-- THE TIED CARD OF 'surdlaw10.SpanMakes'. -/
def spanMakesCard : Claim7 := { stood := { row := spanMakesRow, standIns := [], harness := (true, "1435e4861016e466a4bcf32618a2382e151e20b5fdae769c014a819bce908f9b"), looks := false }, kinds := [], alts := [], laidByText := true, laidKinds := [.data], laidTests := true, laidLooks := .later }
def SpanMakesCardSaid : Prop := Claim7.holds Tryz.pinned (.plain (OpenSpec.ofChange spanMakesSpec)) spanMakesCard

/-- THE TIED CARD OF 'surdlaw10.SpanPairs'. -/
def spanPairsCard : Claim7 := { stood := { row := spanPairsRow, standIns := [], harness := (true, "1435e4861016e466a4bcf32618a2382e151e20b5fdae769c014a819bce908f9b"), looks := false }, kinds := [], alts := [], laidByText := true, laidKinds := [.data], laidTests := true, laidLooks := .later }
def SpanPairsCardSaid : Prop := Claim7.holds Tryz.pinned (.plain (OpenSpec.ofChange spanPairsSpec)) spanPairsCard

/-- THE TIED CARD OF 'surdlaw10.SpanAsks'. -/
def spanAsksCard : Claim7 := { stood := { row := spanAsksRow, standIns := [], harness := (true, "1435e4861016e466a4bcf32618a2382e151e20b5fdae769c014a819bce908f9b"), looks := false }, kinds := [], alts := [], laidByText := true, laidKinds := [.data], laidTests := true, laidLooks := .later }
def SpanAsksCardSaid : Prop := Claim7.holds Tryz.pinned (.plain (OpenSpec.ofChange spanAsksSpec)) spanAsksCard

/-- THE TIED CARD OF 'surdlaw10.SpanWidths'. -/
def spanWidthsCard : Claim7 := { stood := { row := spanWidthsRow, standIns := [], harness := (true, "1435e4861016e466a4bcf32618a2382e151e20b5fdae769c014a819bce908f9b"), looks := false }, kinds := [], alts := [], laidByText := true, laidKinds := [.data], laidTests := true, laidLooks := .later }
def SpanWidthsCardSaid : Prop := Claim7.holds Tryz.pinned (.plain (OpenSpec.ofChange spanWidthsSpec)) spanWidthsCard

/-- THE TIED CARD OF 'surdlaw10.SpanSums'. -/
def spanSumsCard : Claim7 := { stood := { row := spanSumsRow, standIns := [], harness := (true, "1435e4861016e466a4bcf32618a2382e151e20b5fdae769c014a819bce908f9b"), looks := false }, kinds := [], alts := [], laidByText := true, laidKinds := [.data], laidTests := true, laidLooks := .later }
def SpanSumsCardSaid : Prop := Claim7.holds Tryz.pinned (.plain (OpenSpec.ofChange spanSumsSpec)) spanSumsCard

/-- THE TIED CARD OF 'surdlaw10.SpanOwn'. -/
def spanOwnCard : Claim7 := { stood := { row := spanOwnRow, standIns := [], harness := (true, "1435e4861016e466a4bcf32618a2382e151e20b5fdae769c014a819bce908f9b"), looks := false }, kinds := [], alts := [], laidByText := true, laidKinds := [.data], laidTests := true, laidLooks := .later }
def SpanOwnCardSaid : Prop := Claim7.holds Tryz.pinned (.plain (OpenSpec.ofChange spanOwnSpec)) spanOwnCard

/-- THE TIED CARD OF 'surdlaw10.SpanTight'. -/
def spanTightCard : Claim7 := { stood := { row := spanTightRow, standIns := [], harness := (true, "1435e4861016e466a4bcf32618a2382e151e20b5fdae769c014a819bce908f9b"), looks := false }, kinds := [], alts := [], laidByText := true, laidKinds := [.data], laidTests := true, laidLooks := .later }
def SpanTightCardSaid : Prop := Claim7.holds Tryz.pinned (.plain (OpenSpec.ofChange spanTightSpec)) spanTightCard

/-- THE SECOND FORM's CARD OF 'surdlaw10.SpanMakes'. -/
def spanMakesUptoCard : Claim7 := { stood := { row := spanMakesUptoRow, standIns := [], harness := (true, "1435e4861016e466a4bcf32618a2382e151e20b5fdae769c014a819bce908f9b"), looks := false }, kinds := [], alts := [], laidByText := true, laidKinds := [.data], laidTests := true, laidLooks := .later }
def SpanMakesUptoCardSaid : Prop := Claim7.holds Tryz.pinned (.plain (OpenSpec.upto spanMakesSpec)) spanMakesUptoCard

/-- THE SECOND FORM's CARD OF 'surdlaw10.SpanPairs'. -/
def spanPairsUptoCard : Claim7 := { stood := { row := spanPairsUptoRow, standIns := [], harness := (true, "1435e4861016e466a4bcf32618a2382e151e20b5fdae769c014a819bce908f9b"), looks := false }, kinds := [], alts := [], laidByText := true, laidKinds := [.data], laidTests := true, laidLooks := .later }
def SpanPairsUptoCardSaid : Prop := Claim7.holds Tryz.pinned (.plain (OpenSpec.upto spanPairsSpec)) spanPairsUptoCard

/-- THE SECOND FORM's CARD OF 'surdlaw10.SpanAsks'. -/
def spanAsksUptoCard : Claim7 := { stood := { row := spanAsksUptoRow, standIns := [], harness := (true, "1435e4861016e466a4bcf32618a2382e151e20b5fdae769c014a819bce908f9b"), looks := false }, kinds := [], alts := [], laidByText := true, laidKinds := [.data], laidTests := true, laidLooks := .later }
def SpanAsksUptoCardSaid : Prop := Claim7.holds Tryz.pinned (.plain (OpenSpec.upto spanAsksSpec)) spanAsksUptoCard

/-- THE SECOND FORM's CARD OF 'surdlaw10.SpanWidths'. -/
def spanWidthsUptoCard : Claim7 := { stood := { row := spanWidthsUptoRow, standIns := [], harness := (true, "1435e4861016e466a4bcf32618a2382e151e20b5fdae769c014a819bce908f9b"), looks := false }, kinds := [], alts := [], laidByText := true, laidKinds := [.data], laidTests := true, laidLooks := .later }
def SpanWidthsUptoCardSaid : Prop := Claim7.holds Tryz.pinned (.plain (OpenSpec.upto spanWidthsSpec)) spanWidthsUptoCard

/-- THE SECOND FORM's CARD OF 'surdlaw10.SpanSums'. -/
def spanSumsUptoCard : Claim7 := { stood := { row := spanSumsUptoRow, standIns := [], harness := (true, "1435e4861016e466a4bcf32618a2382e151e20b5fdae769c014a819bce908f9b"), looks := false }, kinds := [], alts := [], laidByText := true, laidKinds := [.data], laidTests := true, laidLooks := .later }
def SpanSumsUptoCardSaid : Prop := Claim7.holds Tryz.pinned (.plain (OpenSpec.upto spanSumsSpec)) spanSumsUptoCard

/-- THE SECOND FORM's CARD OF 'surdlaw10.SpanOwn'. -/
def spanOwnUptoCard : Claim7 := { stood := { row := spanOwnUptoRow, standIns := [], harness := (true, "1435e4861016e466a4bcf32618a2382e151e20b5fdae769c014a819bce908f9b"), looks := false }, kinds := [], alts := [], laidByText := true, laidKinds := [.data], laidTests := true, laidLooks := .later }
def SpanOwnUptoCardSaid : Prop := Claim7.holds Tryz.pinned (.plain (OpenSpec.upto spanOwnSpec)) spanOwnUptoCard

/-- THE SECOND FORM's CARD OF 'surdlaw10.SpanTight'. -/
def spanTightUptoCard : Claim7 := { stood := { row := spanTightUptoRow, standIns := [], harness := (true, "1435e4861016e466a4bcf32618a2382e151e20b5fdae769c014a819bce908f9b"), looks := false }, kinds := [], alts := [], laidByText := true, laidKinds := [.data], laidTests := true, laidLooks := .later }
def SpanTightUptoCardSaid : Prop := Claim7.holds Tryz.pinned (.plain (OpenSpec.upto spanTightSpec)) spanTightUptoCard
end Rows
end Go.Proofs.YtplofcianjnkmaaGreatDoor
