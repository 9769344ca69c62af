/-
  DERIVED. GIVEN WITH THE SEED: THE CARDS: each row of YtmjgehbpcchjpaaGreatDoorRows.lean that lists a variable, with what it lists TIED to the program's text (the seventh form; the later family's looks); each row that meets fmt, with fmt's text TOLD by the authors' own Lean function (tested against real Go, not proved from fmt's source: count such statements apart). THE CARD IS WHAT COUNTS. Prove the row's statement (the work); the ties are given (YtmjgehbpcchjpaaGreatDoorTie.lean); close each card by the builder's one call (the guide's Derived/Test/ToyasCard.lean, 'card_holds'). Laid BY PROGRAM, IN A SANDBOX (cutbox-door.mjs). By AI agents, Wed Nov 11 2026. No macro, syntax, notation, axiom, sorry.
-/
import Derived.Test.YtmjgehbpcchjpaaGreatDoorRows
import GoSem.ClaimSeven
namespace Go.Proofs.YtmjgehbpcchjpaaGreatDoor
namespace Rows

/-- THE TIED CARD OF 'sortilegelaw04.MassSums'. -/
def massSumsCard : Claim7 := { stood := { row := massSumsRow, standIns := [], harness := (true, "1c21576ed4d5b5a45d8f31e30e13736f9281f234c143f2f0301878aba2373b08"), looks := false }, kinds := [], alts := [], laidByText := true, laidKinds := [.data, .data, .data], laidTests := true, laidLooks := .later }
def MassSumsCardSaid : Prop := Claim7.holds Tryz.pinned (.plain (OpenSpec.ofChange massSumsSpec)) massSumsCard

/-- THE TIED CARD OF 'sortilegelaw04.MassAnswers'. -/
def massAnswersCard : Claim7 := { stood := { row := massAnswersRow, standIns := [], harness := (true, "1c21576ed4d5b5a45d8f31e30e13736f9281f234c143f2f0301878aba2373b08"), looks := false }, kinds := [], alts := [], laidByText := true, laidKinds := [.data, .data, .data], laidTests := true, laidLooks := .later }
def MassAnswersCardSaid : Prop := Claim7.holds Tryz.pinned (.plain (OpenSpec.ofChange massAnswersSpec)) massAnswersCard

/-- THE TIED CARD OF 'sortilegelaw04.MassTexts'. -/
def massTextsCard : Claim7 := { stood := { row := massTextsRow, standIns := [], harness := (true, "1c21576ed4d5b5a45d8f31e30e13736f9281f234c143f2f0301878aba2373b08"), looks := false }, kinds := [], alts := [], laidByText := true, laidKinds := [.data, .data, .data], laidTests := true, laidLooks := .later }
def MassTextsCardSaid : Prop := Claim7.holds Tryz.pinned (.plain (OpenSpec.ofChange massTextsSpec)) massTextsCard

/-- THE TIED CARD OF 'sortilegelaw04.MassRight'. -/
def massRightCard : Claim7 := { stood := { row := massRightRow, standIns := [], harness := (true, "1c21576ed4d5b5a45d8f31e30e13736f9281f234c143f2f0301878aba2373b08"), looks := false }, kinds := [], alts := [], laidByText := true, laidKinds := [.data, .data, .data], laidTests := true, laidLooks := .later }
def MassRightCardSaid : Prop := Claim7.holds Tryz.pinned (.plain (OpenSpec.ofChange massRightSpec)) massRightCard

/-- THE TIED CARD OF 'sortilegelaw04.MassMonoid'. -/
def massMonoidCard : Claim7 := { stood := { row := massMonoidRow, standIns := [], harness := (true, "1c21576ed4d5b5a45d8f31e30e13736f9281f234c143f2f0301878aba2373b08"), looks := false }, kinds := [], alts := [], laidByText := true, laidKinds := [.data, .data, .data], laidTests := true, laidLooks := .later }
def MassMonoidCardSaid : Prop := Claim7.holds Tryz.pinned (.plain (OpenSpec.ofChange massMonoidSpec)) massMonoidCard

/-- THE TIED CARD OF 'sortilegelaw04.MassAnswered'. -/
def massAnsweredCard : Claim7 := { stood := { row := massAnsweredRow, standIns := [], harness := (true, "1c21576ed4d5b5a45d8f31e30e13736f9281f234c143f2f0301878aba2373b08"), looks := false }, kinds := [], alts := [], laidByText := true, laidKinds := [.data, .data, .data], laidTests := true, laidLooks := .later }
def MassAnsweredCardSaid : Prop := Claim7.holds Tryz.pinned (.plain (OpenSpec.ofChange massAnsweredSpec)) massAnsweredCard

/-- THE TIED CARD OF 'sortilegelaw04.MassTells'. -/
def massTellsCard : Claim7 := { stood := { row := massTellsRow, standIns := [], harness := (true, "1c21576ed4d5b5a45d8f31e30e13736f9281f234c143f2f0301878aba2373b08"), looks := false }, kinds := [], alts := [], laidByText := true, laidKinds := [.data, .data, .data], laidTests := true, laidLooks := .later }
def MassTellsCardSaid : Prop := Claim7.holds Tryz.pinned (.plain (OpenSpec.ofChange massTellsSpec)) massTellsCard

/-- THE TIED CARD OF 'sortilegelaw04.MassBinds'. -/
def massBindsCard : Claim7 := { stood := { row := massBindsRow, standIns := [], harness := (true, "1c21576ed4d5b5a45d8f31e30e13736f9281f234c143f2f0301878aba2373b08"), looks := false }, kinds := [], alts := [], laidByText := true, laidKinds := [.data, .data, .data], laidTests := true, laidLooks := .later }
def MassBindsCardSaid : Prop := Claim7.holds Tryz.pinned (.plain (OpenSpec.ofChange massBindsSpec)) massBindsCard

/-- THE TIED CARD OF 'sortilegelaw04.MassMonad'. -/
def massMonadCard : Claim7 := { stood := { row := massMonadRow, standIns := [], harness := (true, "1c21576ed4d5b5a45d8f31e30e13736f9281f234c143f2f0301878aba2373b08"), looks := false }, kinds := [], alts := [], laidByText := true, laidKinds := [.data, .data, .data], laidTests := true, laidLooks := .later }
def MassMonadCardSaid : Prop := Claim7.holds Tryz.pinned (.plain (OpenSpec.ofChange massMonadSpec)) massMonadCard

/-- THE TIED CARD OF 'sortilegelaw04.MassWhole'. -/
def massWholeCard : Claim7 := { stood := { row := massWholeRow, standIns := [], harness := (true, "1c21576ed4d5b5a45d8f31e30e13736f9281f234c143f2f0301878aba2373b08"), looks := false }, kinds := [], alts := [], laidByText := true, laidKinds := [.data, .data, .data], laidTests := true, laidLooks := .later }
def MassWholeCardSaid : Prop := Claim7.holds Tryz.pinned (.plain (OpenSpec.ofChange massWholeSpec)) massWholeCard

/-- THE TIED CARD OF 'sortilegelaw04.MassOwn'. -/
def massOwnCard : Claim7 := { stood := { row := massOwnRow, standIns := [], harness := (true, "1c21576ed4d5b5a45d8f31e30e13736f9281f234c143f2f0301878aba2373b08"), looks := false }, kinds := [], alts := [], laidByText := true, laidKinds := [.data, .data, .data], laidTests := true, laidLooks := .later }
def MassOwnCardSaid : Prop := Claim7.holds Tryz.pinned (.plain (OpenSpec.ofChange massOwnSpec)) massOwnCard

/-- THE SECOND FORM's CARD OF 'sortilegelaw04.MassSums'. -/
def massSumsUptoCard : Claim7 := { stood := { row := massSumsUptoRow, standIns := [], harness := (true, "1c21576ed4d5b5a45d8f31e30e13736f9281f234c143f2f0301878aba2373b08"), looks := false }, kinds := [], alts := [], laidByText := true, laidKinds := [.data, .data, .data], laidTests := true, laidLooks := .later }
def MassSumsUptoCardSaid : Prop := Claim7.holds Tryz.pinned (.plain (OpenSpec.upto massSumsSpec)) massSumsUptoCard

/-- THE SECOND FORM's CARD OF 'sortilegelaw04.MassAnswers'. -/
def massAnswersUptoCard : Claim7 := { stood := { row := massAnswersUptoRow, standIns := [], harness := (true, "1c21576ed4d5b5a45d8f31e30e13736f9281f234c143f2f0301878aba2373b08"), looks := false }, kinds := [], alts := [], laidByText := true, laidKinds := [.data, .data, .data], laidTests := true, laidLooks := .later }
def MassAnswersUptoCardSaid : Prop := Claim7.holds Tryz.pinned (.plain (OpenSpec.upto massAnswersSpec)) massAnswersUptoCard

/-- THE SECOND FORM's CARD OF 'sortilegelaw04.MassTexts'. -/
def massTextsUptoCard : Claim7 := { stood := { row := massTextsUptoRow, standIns := [], harness := (true, "1c21576ed4d5b5a45d8f31e30e13736f9281f234c143f2f0301878aba2373b08"), looks := false }, kinds := [], alts := [], laidByText := true, laidKinds := [.data, .data, .data], laidTests := true, laidLooks := .later }
def MassTextsUptoCardSaid : Prop := Claim7.holds Tryz.pinned (.plain (OpenSpec.upto massTextsSpec)) massTextsUptoCard

/-- THE SECOND FORM's CARD OF 'sortilegelaw04.MassRight'. -/
def massRightUptoCard : Claim7 := { stood := { row := massRightUptoRow, standIns := [], harness := (true, "1c21576ed4d5b5a45d8f31e30e13736f9281f234c143f2f0301878aba2373b08"), looks := false }, kinds := [], alts := [], laidByText := true, laidKinds := [.data, .data, .data], laidTests := true, laidLooks := .later }
def MassRightUptoCardSaid : Prop := Claim7.holds Tryz.pinned (.plain (OpenSpec.upto massRightSpec)) massRightUptoCard

/-- THE SECOND FORM's CARD OF 'sortilegelaw04.MassMonoid'. -/
def massMonoidUptoCard : Claim7 := { stood := { row := massMonoidUptoRow, standIns := [], harness := (true, "1c21576ed4d5b5a45d8f31e30e13736f9281f234c143f2f0301878aba2373b08"), looks := false }, kinds := [], alts := [], laidByText := true, laidKinds := [.data, .data, .data], laidTests := true, laidLooks := .later }
def MassMonoidUptoCardSaid : Prop := Claim7.holds Tryz.pinned (.plain (OpenSpec.upto massMonoidSpec)) massMonoidUptoCard

/-- THE SECOND FORM's CARD OF 'sortilegelaw04.MassAnswered'. -/
def massAnsweredUptoCard : Claim7 := { stood := { row := massAnsweredUptoRow, standIns := [], harness := (true, "1c21576ed4d5b5a45d8f31e30e13736f9281f234c143f2f0301878aba2373b08"), looks := false }, kinds := [], alts := [], laidByText := true, laidKinds := [.data, .data, .data], laidTests := true, laidLooks := .later }
def MassAnsweredUptoCardSaid : Prop := Claim7.holds Tryz.pinned (.plain (OpenSpec.upto massAnsweredSpec)) massAnsweredUptoCard

/-- THE SECOND FORM's CARD OF 'sortilegelaw04.MassTells'. -/
def massTellsUptoCard : Claim7 := { stood := { row := massTellsUptoRow, standIns := [], harness := (true, "1c21576ed4d5b5a45d8f31e30e13736f9281f234c143f2f0301878aba2373b08"), looks := false }, kinds := [], alts := [], laidByText := true, laidKinds := [.data, .data, .data], laidTests := true, laidLooks := .later }
def MassTellsUptoCardSaid : Prop := Claim7.holds Tryz.pinned (.plain (OpenSpec.upto massTellsSpec)) massTellsUptoCard

/-- THE SECOND FORM's CARD OF 'sortilegelaw04.MassBinds'. -/
def massBindsUptoCard : Claim7 := { stood := { row := massBindsUptoRow, standIns := [], harness := (true, "1c21576ed4d5b5a45d8f31e30e13736f9281f234c143f2f0301878aba2373b08"), looks := false }, kinds := [], alts := [], laidByText := true, laidKinds := [.data, .data, .data], laidTests := true, laidLooks := .later }
def MassBindsUptoCardSaid : Prop := Claim7.holds Tryz.pinned (.plain (OpenSpec.upto massBindsSpec)) massBindsUptoCard

/-- THE SECOND FORM's CARD OF 'sortilegelaw04.MassMonad'. -/
def massMonadUptoCard : Claim7 := { stood := { row := massMonadUptoRow, standIns := [], harness := (true, "1c21576ed4d5b5a45d8f31e30e13736f9281f234c143f2f0301878aba2373b08"), looks := false }, kinds := [], alts := [], laidByText := true, laidKinds := [.data, .data, .data], laidTests := true, laidLooks := .later }
def MassMonadUptoCardSaid : Prop := Claim7.holds Tryz.pinned (.plain (OpenSpec.upto massMonadSpec)) massMonadUptoCard

/-- THE SECOND FORM's CARD OF 'sortilegelaw04.MassWhole'. -/
def massWholeUptoCard : Claim7 := { stood := { row := massWholeUptoRow, standIns := [], harness := (true, "1c21576ed4d5b5a45d8f31e30e13736f9281f234c143f2f0301878aba2373b08"), looks := false }, kinds := [], alts := [], laidByText := true, laidKinds := [.data, .data, .data], laidTests := true, laidLooks := .later }
def MassWholeUptoCardSaid : Prop := Claim7.holds Tryz.pinned (.plain (OpenSpec.upto massWholeSpec)) massWholeUptoCard

/-- THE SECOND FORM's CARD OF 'sortilegelaw04.MassOwn'. -/
def massOwnUptoCard : Claim7 := { stood := { row := massOwnUptoRow, standIns := [], harness := (true, "1c21576ed4d5b5a45d8f31e30e13736f9281f234c143f2f0301878aba2373b08"), looks := false }, kinds := [], alts := [], laidByText := true, laidKinds := [.data, .data, .data], laidTests := true, laidLooks := .later }
def MassOwnUptoCardSaid : Prop := Claim7.holds Tryz.pinned (.plain (OpenSpec.upto massOwnSpec)) massOwnUptoCard
end Rows
end Go.Proofs.YtmjgehbpcchjpaaGreatDoor
