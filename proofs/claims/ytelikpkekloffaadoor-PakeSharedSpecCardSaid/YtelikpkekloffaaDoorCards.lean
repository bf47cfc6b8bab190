/-
  DERIVED. GIVEN WITH THE SEED: THE CARDS: each row of YtelikpkekloffaaDoorRows.lean that lists a variable, with what it lists TIED to the program's text (the seventh form; the later family's looks); each row that meets fmt, with fmt's text TOLD by the authors' own Lean function (tested against real Go, not proved from fmt's source: count such statements apart). THE CARD IS WHAT COUNTS. Prove the row's statement (the work); the ties are given (YtelikpkekloffaaDoorTie.lean); close each card by the builder's one call (the guide's Derived/Test/ToyasCard.lean, 'card_holds'). Laid BY PROGRAM, IN A SANDBOX (cutbox-door.mjs). By AI agents, Wed Nov 11 2026. No macro, syntax, notation, axiom, sorry.
-/
import Derived.Test.YtelikpkekloffaaDoorRows
import GoSem.ClaimSeven
namespace Go.Proofs.YtelikpkekloffaaDoor
namespace Rows

/-- THE TIED CARD OF 'chartroomlaw10.PakeMasks'. -/
def pakeMasksCard : Claim7 := { stood := { row := pakeMasksRow, standIns := [], harness := (true, "a9268d64ba9a4d441ac8e0da7b1575784e2d20c40935bdbbec8f8db91b5672cf"), looks := false }, kinds := [], alts := [], laidByText := true, laidKinds := [.data, .data], laidTests := true, laidLooks := .later }
def PakeMasksCardSaid : Prop := Claim7.holds Tryd.pinned (.plain (OpenSpec.ofChange pakeMasksSpec)) pakeMasksCard

/-- THE TIED CARD OF 'chartroomlaw04.GroupHash'. -/
def groupHashCard : Claim7 := { stood := { row := groupHashRow, standIns := [], harness := (true, "a9268d64ba9a4d441ac8e0da7b1575784e2d20c40935bdbbec8f8db91b5672cf"), looks := false }, kinds := [], alts := [], laidByText := true, laidKinds := [.data, .data], laidTests := true, laidLooks := .later }
def GroupHashCardSaid : Prop := Claim7.holds Tryd.pinned (.plain (OpenSpec.ofChange groupHashSpec)) groupHashCard

/-- THE TIED CARD OF 'chartroomlaw10.PakeCodes'. -/
def pakeCodesCard : Claim7 := { stood := { row := pakeCodesRow, standIns := [], harness := (true, "a9268d64ba9a4d441ac8e0da7b1575784e2d20c40935bdbbec8f8db91b5672cf"), looks := false }, kinds := [], alts := [], laidByText := true, laidKinds := [.data, .data], laidTests := true, laidLooks := .later }
def PakeCodesCardSaid : Prop := Claim7.holds Tryd.pinned (.plain (OpenSpec.ofChange pakeCodesSpec)) pakeCodesCard

/-- THE TIED CARD OF 'chartroomlaw04.GroupDetermined'. -/
def groupDeterminedCard : Claim7 := { stood := { row := groupDeterminedRow, standIns := [], harness := (true, "a9268d64ba9a4d441ac8e0da7b1575784e2d20c40935bdbbec8f8db91b5672cf"), looks := false }, kinds := [], alts := [], laidByText := true, laidKinds := [.data, .data], laidTests := true, laidLooks := .later }
def GroupDeterminedCardSaid : Prop := Claim7.holds Tryd.pinned (.plain (OpenSpec.ofChange groupDeterminedSpec)) groupDeterminedCard

/-- THE TIED CARD OF 'chartroomlaw10.PakePointSpec'. -/
def pakePointSpecCard : Claim7 := { stood := { row := pakePointSpecRow, standIns := [], harness := (true, "a9268d64ba9a4d441ac8e0da7b1575784e2d20c40935bdbbec8f8db91b5672cf"), looks := false }, kinds := [], alts := [], laidByText := true, laidKinds := [.data, .data], laidTests := true, laidLooks := .later }
def PakePointSpecCardSaid : Prop := Claim7.holds Tryd.pinned (.plain (OpenSpec.ofChange pakePointSpecSpec)) pakePointSpecCard

/-- THE TIED CARD OF 'chartroomlaw10.PakeSharedSpec'. -/
def pakeSharedSpecCard : Claim7 := { stood := { row := pakeSharedSpecRow, standIns := [], harness := (true, "a9268d64ba9a4d441ac8e0da7b1575784e2d20c40935bdbbec8f8db91b5672cf"), looks := false }, kinds := [], alts := [], laidByText := true, laidKinds := [.data, .data], laidTests := true, laidLooks := .later }
def PakeSharedSpecCardSaid : Prop := Claim7.holds Tryd.pinned (.plain (OpenSpec.ofChange pakeSharedSpecSpec)) pakeSharedSpecCard

/-- THE TIED CARD OF 'chartroomlaw10.PakeAgree'. -/
def pakeAgreeCard : Claim7 := { stood := { row := pakeAgreeRow, standIns := [], harness := (true, "a9268d64ba9a4d441ac8e0da7b1575784e2d20c40935bdbbec8f8db91b5672cf"), looks := false }, kinds := [], alts := [], laidByText := true, laidKinds := [.data, .data], laidTests := true, laidLooks := .later }
def PakeAgreeCardSaid : Prop := Claim7.holds Tryd.pinned (.plain (OpenSpec.ofChange pakeAgreeSpec)) pakeAgreeCard

/-- THE TIED CARD OF 'chartroomlaw10.PakeProofs'. -/
def pakeProofsCard : Claim7 := { stood := { row := pakeProofsRow, standIns := [], harness := (true, "a9268d64ba9a4d441ac8e0da7b1575784e2d20c40935bdbbec8f8db91b5672cf"), looks := false }, kinds := [], alts := [], laidByText := true, laidKinds := [.data, .data], laidTests := true, laidLooks := .later }
def PakeProofsCardSaid : Prop := Claim7.holds Tryd.pinned (.plain (OpenSpec.ofChange pakeProofsSpec)) pakeProofsCard

/-- THE TIED CARD OF 'chartroomlaw10.PakeRefused'. -/
def pakeRefusedCard : Claim7 := { stood := { row := pakeRefusedRow, standIns := [], harness := (true, "a9268d64ba9a4d441ac8e0da7b1575784e2d20c40935bdbbec8f8db91b5672cf"), looks := false }, kinds := [], alts := [], laidByText := true, laidKinds := [.data, .data], laidTests := true, laidLooks := .later }
def PakeRefusedCardSaid : Prop := Claim7.holds Tryd.pinned (.plain (OpenSpec.ofChange pakeRefusedSpec)) pakeRefusedCard

/-- THE TIED CARD OF 'chartroomlaw05.SignPublicSpec'. -/
def signPublicSpecCard : Claim7 := { stood := { row := signPublicSpecRow, standIns := [], harness := (true, "a9268d64ba9a4d441ac8e0da7b1575784e2d20c40935bdbbec8f8db91b5672cf"), looks := false }, kinds := [], alts := [], laidByText := true, laidKinds := [.data, .data], laidTests := true, laidLooks := .later }
def SignPublicSpecCardSaid : Prop := Claim7.holds Tryd.pinned (.plain (OpenSpec.ofChange signPublicSpecSpec)) signPublicSpecCard

/-- THE TIED CARD OF 'chartroomlaw05.SignVerifySpec'. -/
def signVerifySpecCard : Claim7 := { stood := { row := signVerifySpecRow, standIns := [], harness := (true, "a9268d64ba9a4d441ac8e0da7b1575784e2d20c40935bdbbec8f8db91b5672cf"), looks := false }, kinds := [], alts := [], laidByText := true, laidKinds := [.data, .data], laidTests := true, laidLooks := .later }
def SignVerifySpecCardSaid : Prop := Claim7.holds Tryd.pinned (.plain (OpenSpec.ofChange signVerifySpecSpec)) signVerifySpecCard

/-- THE TIED CARD OF 'chartroomlaw05.SignVerifies'. -/
def signVerifiesCard : Claim7 := { stood := { row := signVerifiesRow, standIns := [], harness := (true, "a9268d64ba9a4d441ac8e0da7b1575784e2d20c40935bdbbec8f8db91b5672cf"), looks := false }, kinds := [], alts := [], laidByText := true, laidKinds := [.data, .data], laidTests := true, laidLooks := .later }
def SignVerifiesCardSaid : Prop := Claim7.holds Tryd.pinned (.plain (OpenSpec.ofChange signVerifiesSpec)) signVerifiesCard

/-- THE TIED CARD OF 'chartroomlaw05.SignEquation'. -/
def signEquationCard : Claim7 := { stood := { row := signEquationRow, standIns := [], harness := (true, "a9268d64ba9a4d441ac8e0da7b1575784e2d20c40935bdbbec8f8db91b5672cf"), looks := false }, kinds := [], alts := [], laidByText := true, laidKinds := [.data, .data], laidTests := true, laidLooks := .later }
def SignEquationCardSaid : Prop := Claim7.holds Tryd.pinned (.plain (OpenSpec.ofChange signEquationSpec)) signEquationCard

/-- THE TIED CARD OF 'chartroomlaw05.SignOnly'. -/
def signOnlyCard : Claim7 := { stood := { row := signOnlyRow, standIns := [], harness := (true, "a9268d64ba9a4d441ac8e0da7b1575784e2d20c40935bdbbec8f8db91b5672cf"), looks := false }, kinds := [], alts := [], laidByText := true, laidKinds := [.data, .data], laidTests := true, laidLooks := .later }
def SignOnlyCardSaid : Prop := Claim7.holds Tryd.pinned (.plain (OpenSpec.ofChange signOnlySpec)) signOnlyCard

/-- THE TIED CARD OF 'chartroomlaw05.SignNonce'. -/
def signNonceCard : Claim7 := { stood := { row := signNonceRow, standIns := [], harness := (true, "a9268d64ba9a4d441ac8e0da7b1575784e2d20c40935bdbbec8f8db91b5672cf"), looks := false }, kinds := [], alts := [], laidByText := true, laidKinds := [.data, .data], laidTests := true, laidLooks := .later }
def SignNonceCardSaid : Prop := Claim7.holds Tryd.pinned (.plain (OpenSpec.ofChange signNonceSpec)) signNonceCard

/-- THE TIED CARD OF 'chartroomlaw05.SignDifference'. -/
def signDifferenceCard : Claim7 := { stood := { row := signDifferenceRow, standIns := [], harness := (true, "a9268d64ba9a4d441ac8e0da7b1575784e2d20c40935bdbbec8f8db91b5672cf"), looks := false }, kinds := [], alts := [], laidByText := true, laidKinds := [.data, .data], laidTests := true, laidLooks := .later }
def SignDifferenceCardSaid : Prop := Claim7.holds Tryd.pinned (.plain (OpenSpec.ofChange signDifferenceSpec)) signDifferenceCard

/-- THE SECOND FORM's CARD OF 'chartroomlaw10.PakeMasks'. -/
def pakeMasksUptoCard : Claim7 := { stood := { row := pakeMasksUptoRow, standIns := [], harness := (true, "a9268d64ba9a4d441ac8e0da7b1575784e2d20c40935bdbbec8f8db91b5672cf"), looks := false }, kinds := [], alts := [], laidByText := true, laidKinds := [.data, .data], laidTests := true, laidLooks := .later }
def PakeMasksUptoCardSaid : Prop := Claim7.holds Tryd.pinned (.plain (OpenSpec.upto pakeMasksSpec)) pakeMasksUptoCard

/-- THE SECOND FORM's CARD OF 'chartroomlaw04.GroupHash'. -/
def groupHashUptoCard : Claim7 := { stood := { row := groupHashUptoRow, standIns := [], harness := (true, "a9268d64ba9a4d441ac8e0da7b1575784e2d20c40935bdbbec8f8db91b5672cf"), looks := false }, kinds := [], alts := [], laidByText := true, laidKinds := [.data, .data], laidTests := true, laidLooks := .later }
def GroupHashUptoCardSaid : Prop := Claim7.holds Tryd.pinned (.plain (OpenSpec.upto groupHashSpec)) groupHashUptoCard

/-- THE SECOND FORM's CARD OF 'chartroomlaw10.PakeCodes'. -/
def pakeCodesUptoCard : Claim7 := { stood := { row := pakeCodesUptoRow, standIns := [], harness := (true, "a9268d64ba9a4d441ac8e0da7b1575784e2d20c40935bdbbec8f8db91b5672cf"), looks := false }, kinds := [], alts := [], laidByText := true, laidKinds := [.data, .data], laidTests := true, laidLooks := .later }
def PakeCodesUptoCardSaid : Prop := Claim7.holds Tryd.pinned (.plain (OpenSpec.upto pakeCodesSpec)) pakeCodesUptoCard

/-- THE SECOND FORM's CARD OF 'chartroomlaw04.GroupDetermined'. -/
def groupDeterminedUptoCard : Claim7 := { stood := { row := groupDeterminedUptoRow, standIns := [], harness := (true, "a9268d64ba9a4d441ac8e0da7b1575784e2d20c40935bdbbec8f8db91b5672cf"), looks := false }, kinds := [], alts := [], laidByText := true, laidKinds := [.data, .data], laidTests := true, laidLooks := .later }
def GroupDeterminedUptoCardSaid : Prop := Claim7.holds Tryd.pinned (.plain (OpenSpec.upto groupDeterminedSpec)) groupDeterminedUptoCard

/-- THE SECOND FORM's CARD OF 'chartroomlaw10.PakePointSpec'. -/
def pakePointSpecUptoCard : Claim7 := { stood := { row := pakePointSpecUptoRow, standIns := [], harness := (true, "a9268d64ba9a4d441ac8e0da7b1575784e2d20c40935bdbbec8f8db91b5672cf"), looks := false }, kinds := [], alts := [], laidByText := true, laidKinds := [.data, .data], laidTests := true, laidLooks := .later }
def PakePointSpecUptoCardSaid : Prop := Claim7.holds Tryd.pinned (.plain (OpenSpec.upto pakePointSpecSpec)) pakePointSpecUptoCard

/-- THE SECOND FORM's CARD OF 'chartroomlaw10.PakeSharedSpec'. -/
def pakeSharedSpecUptoCard : Claim7 := { stood := { row := pakeSharedSpecUptoRow, standIns := [], harness := (true, "a9268d64ba9a4d441ac8e0da7b1575784e2d20c40935bdbbec8f8db91b5672cf"), looks := false }, kinds := [], alts := [], laidByText := true, laidKinds := [.data, .data], laidTests := true, laidLooks := .later }
def PakeSharedSpecUptoCardSaid : Prop := Claim7.holds Tryd.pinned (.plain (OpenSpec.upto pakeSharedSpecSpec)) pakeSharedSpecUptoCard

/-- THE SECOND FORM's CARD OF 'chartroomlaw10.PakeAgree'. -/
def pakeAgreeUptoCard : Claim7 := { stood := { row := pakeAgreeUptoRow, standIns := [], harness := (true, "a9268d64ba9a4d441ac8e0da7b1575784e2d20c40935bdbbec8f8db91b5672cf"), looks := false }, kinds := [], alts := [], laidByText := true, laidKinds := [.data, .data], laidTests := true, laidLooks := .later }
def PakeAgreeUptoCardSaid : Prop := Claim7.holds Tryd.pinned (.plain (OpenSpec.upto pakeAgreeSpec)) pakeAgreeUptoCard

/-- THE SECOND FORM's CARD OF 'chartroomlaw10.PakeProofs'. -/
def pakeProofsUptoCard : Claim7 := { stood := { row := pakeProofsUptoRow, standIns := [], harness := (true, "a9268d64ba9a4d441ac8e0da7b1575784e2d20c40935bdbbec8f8db91b5672cf"), looks := false }, kinds := [], alts := [], laidByText := true, laidKinds := [.data, .data], laidTests := true, laidLooks := .later }
def PakeProofsUptoCardSaid : Prop := Claim7.holds Tryd.pinned (.plain (OpenSpec.upto pakeProofsSpec)) pakeProofsUptoCard

/-- THE SECOND FORM's CARD OF 'chartroomlaw10.PakeRefused'. -/
def pakeRefusedUptoCard : Claim7 := { stood := { row := pakeRefusedUptoRow, standIns := [], harness := (true, "a9268d64ba9a4d441ac8e0da7b1575784e2d20c40935bdbbec8f8db91b5672cf"), looks := false }, kinds := [], alts := [], laidByText := true, laidKinds := [.data, .data], laidTests := true, laidLooks := .later }
def PakeRefusedUptoCardSaid : Prop := Claim7.holds Tryd.pinned (.plain (OpenSpec.upto pakeRefusedSpec)) pakeRefusedUptoCard

/-- THE SECOND FORM's CARD OF 'chartroomlaw05.SignPublicSpec'. -/
def signPublicSpecUptoCard : Claim7 := { stood := { row := signPublicSpecUptoRow, standIns := [], harness := (true, "a9268d64ba9a4d441ac8e0da7b1575784e2d20c40935bdbbec8f8db91b5672cf"), looks := false }, kinds := [], alts := [], laidByText := true, laidKinds := [.data, .data], laidTests := true, laidLooks := .later }
def SignPublicSpecUptoCardSaid : Prop := Claim7.holds Tryd.pinned (.plain (OpenSpec.upto signPublicSpecSpec)) signPublicSpecUptoCard

/-- THE SECOND FORM's CARD OF 'chartroomlaw05.SignVerifySpec'. -/
def signVerifySpecUptoCard : Claim7 := { stood := { row := signVerifySpecUptoRow, standIns := [], harness := (true, "a9268d64ba9a4d441ac8e0da7b1575784e2d20c40935bdbbec8f8db91b5672cf"), looks := false }, kinds := [], alts := [], laidByText := true, laidKinds := [.data, .data], laidTests := true, laidLooks := .later }
def SignVerifySpecUptoCardSaid : Prop := Claim7.holds Tryd.pinned (.plain (OpenSpec.upto signVerifySpecSpec)) signVerifySpecUptoCard

/-- THE SECOND FORM's CARD OF 'chartroomlaw05.SignVerifies'. -/
def signVerifiesUptoCard : Claim7 := { stood := { row := signVerifiesUptoRow, standIns := [], harness := (true, "a9268d64ba9a4d441ac8e0da7b1575784e2d20c40935bdbbec8f8db91b5672cf"), looks := false }, kinds := [], alts := [], laidByText := true, laidKinds := [.data, .data], laidTests := true, laidLooks := .later }
def SignVerifiesUptoCardSaid : Prop := Claim7.holds Tryd.pinned (.plain (OpenSpec.upto signVerifiesSpec)) signVerifiesUptoCard

/-- THE SECOND FORM's CARD OF 'chartroomlaw05.SignEquation'. -/
def signEquationUptoCard : Claim7 := { stood := { row := signEquationUptoRow, standIns := [], harness := (true, "a9268d64ba9a4d441ac8e0da7b1575784e2d20c40935bdbbec8f8db91b5672cf"), looks := false }, kinds := [], alts := [], laidByText := true, laidKinds := [.data, .data], laidTests := true, laidLooks := .later }
def SignEquationUptoCardSaid : Prop := Claim7.holds Tryd.pinned (.plain (OpenSpec.upto signEquationSpec)) signEquationUptoCard

/-- THE SECOND FORM's CARD OF 'chartroomlaw05.SignOnly'. -/
def signOnlyUptoCard : Claim7 := { stood := { row := signOnlyUptoRow, standIns := [], harness := (true, "a9268d64ba9a4d441ac8e0da7b1575784e2d20c40935bdbbec8f8db91b5672cf"), looks := false }, kinds := [], alts := [], laidByText := true, laidKinds := [.data, .data], laidTests := true, laidLooks := .later }
def SignOnlyUptoCardSaid : Prop := Claim7.holds Tryd.pinned (.plain (OpenSpec.upto signOnlySpec)) signOnlyUptoCard

/-- THE SECOND FORM's CARD OF 'chartroomlaw05.SignNonce'. -/
def signNonceUptoCard : Claim7 := { stood := { row := signNonceUptoRow, standIns := [], harness := (true, "a9268d64ba9a4d441ac8e0da7b1575784e2d20c40935bdbbec8f8db91b5672cf"), looks := false }, kinds := [], alts := [], laidByText := true, laidKinds := [.data, .data], laidTests := true, laidLooks := .later }
def SignNonceUptoCardSaid : Prop := Claim7.holds Tryd.pinned (.plain (OpenSpec.upto signNonceSpec)) signNonceUptoCard

/-- THE SECOND FORM's CARD OF 'chartroomlaw05.SignDifference'. -/
def signDifferenceUptoCard : Claim7 := { stood := { row := signDifferenceUptoRow, standIns := [], harness := (true, "a9268d64ba9a4d441ac8e0da7b1575784e2d20c40935bdbbec8f8db91b5672cf"), looks := false }, kinds := [], alts := [], laidByText := true, laidKinds := [.data, .data], laidTests := true, laidLooks := .later }
def SignDifferenceUptoCardSaid : Prop := Claim7.holds Tryd.pinned (.plain (OpenSpec.upto signDifferenceSpec)) signDifferenceUptoCard
end Rows
end Go.Proofs.YtelikpkekloffaaDoor
