/-
  NARROWER THAN 'FOR EVERY INPUT', by the rows' own cells (each row's printed sentence says how): PakeMasks: laid · GroupHash: laid · PakeCodes: laid · GroupDetermined: laid · PakePointSpec: laid · PakeSharedSpec: laid · PakeAgree: laid · PakeProofs: laid · PakeRefused: laid · SignPublicSpec: laid · SignVerifySpec: laid · SignVerifies: laid · SignEquation: laid · SignOnly: laid · SignNonce: laid · SignDifference: laid.
  DERIVED. THE GIVEN ROWS OF THIS SEAT. 16 by the template 'for every input the law returns true; each argument reads behind the call as it read before'; 0 by the template 'total and deterministic' (their statements: YtelikpkekloffaaDoorTotals.lean).
  GIVEN WITH THE SEED: the statements are not yours to turn. If you find one false, say at which input.
  Laid BY PROGRAM, IN A SANDBOX (cutbox-rows.mjs): the forced cells as the released guide's own fill.sh prints them over the translation f7e850f08ec51647… (all of the seat's roots in one cut). By AI agents, Wed Nov 11 2026. No macro, syntax, notation, axiom, sorry.
-/
import Derived.Test.YtelikpkekloffaaDoorChecked
import GoSem.Claim
import GoSem.ClaimJoined
import GoSem.ClaimMapViews
import Derived.JoinedTies
import Derived.KernelRfl
namespace Go.Proofs.YtelikpkekloffaaDoor
/- THE CELL 'sum', in the pinned program and in every row, IS THE sha256 OF THE DUMP (.gsa) THAT YtelikpkekloffaaDoorProg.lean LOADS. Nothing in Lean hashes anything: it is a label: what it is worth is what the hold of that sum in a sandbox is worth. -/
noncomputable def Tryd.pinned : Pinned := { name := "ytelikpkekloffaadoor", sum := "f7e850f08ec51647e10f2bf68fdc6bdd49e2e33adf7793cbb9730c9e9d7698fe", checked := Tryd.checked }
namespace Rows
def none {H : Type} : Left H := { results := [], args := [] }

/- WHAT THE LISTED PACKAGE-LEVEL VARIABLES READ AS WHEN THE CALL BEGINS. Each datum BY PROGRAM (the guide's laid-datum.mjs) off the statement by which the dump's own 'gosem.cut.vars' lays the variable. In a bare row this is a premise. The card (YtelikpkekloffaaDoorCards.lean) ties it to the program's text. -/
def laid_chartroom_digest_start {H : Type} : DataW H := .agg [.lit (.int .u32 1779033703), .lit (.int .u32 3144134277), .lit (.int .u32 1013904242), .lit (.int .u32 2773480762), .lit (.int .u32 1359893119), .lit (.int .u32 2600822924), .lit (.int .u32 528734635), .lit (.int .u32 1541459225)]
def laid_chartroom_digest_numbers {H : Type} : DataW H := .agg [.lit (.int .u32 1116352408), .lit (.int .u32 1899447441), .lit (.int .u32 3049323471), .lit (.int .u32 3921009573), .lit (.int .u32 961987163), .lit (.int .u32 1508970993), .lit (.int .u32 2453635748), .lit (.int .u32 2870763221), .lit (.int .u32 3624381080), .lit (.int .u32 310598401), .lit (.int .u32 607225278), .lit (.int .u32 1426881987), .lit (.int .u32 1925078388), .lit (.int .u32 2162078206), .lit (.int .u32 2614888103), .lit (.int .u32 3248222580), .lit (.int .u32 3835390401), .lit (.int .u32 4022224774), .lit (.int .u32 264347078), .lit (.int .u32 604807628), .lit (.int .u32 770255983), .lit (.int .u32 1249150122), .lit (.int .u32 1555081692), .lit (.int .u32 1996064986), .lit (.int .u32 2554220882), .lit (.int .u32 2821834349), .lit (.int .u32 2952996808), .lit (.int .u32 3210313671), .lit (.int .u32 3336571891), .lit (.int .u32 3584528711), .lit (.int .u32 113926993), .lit (.int .u32 338241895), .lit (.int .u32 666307205), .lit (.int .u32 773529912), .lit (.int .u32 1294757372), .lit (.int .u32 1396182291), .lit (.int .u32 1695183700), .lit (.int .u32 1986661051), .lit (.int .u32 2177026350), .lit (.int .u32 2456956037), .lit (.int .u32 2730485921), .lit (.int .u32 2820302411), .lit (.int .u32 3259730800), .lit (.int .u32 3345764771), .lit (.int .u32 3516065817), .lit (.int .u32 3600352804), .lit (.int .u32 4094571909), .lit (.int .u32 275423344), .lit (.int .u32 430227734), .lit (.int .u32 506948616), .lit (.int .u32 659060556), .lit (.int .u32 883997877), .lit (.int .u32 958139571), .lit (.int .u32 1322822218), .lit (.int .u32 1537002063), .lit (.int .u32 1747873779), .lit (.int .u32 1955562222), .lit (.int .u32 2024104815), .lit (.int .u32 2227730452), .lit (.int .u32 2361852424), .lit (.int .u32 2428436474), .lit (.int .u32 2756734187), .lit (.int .u32 3204031479), .lit (.int .u32 3329325298)]

/-- 'chartroomlaw10.PakeMasks': WHATEVER THE INPUT: true; the input reads as it did. -/
def pakeMasksSpec : ChangeSpec := { name := "pakeMasks", fn := fun _ => fun
  | [d1, d2, d3, d4] => { results := [.lit (.bool true)], args := [d1, d2, d3, d4] }
  | _ => none }
def pakeMasksRow : OpenClaim := { program := "ytelikpkekloffaadoor", sum := "f7e850f08ec51647e10f2bf68fdc6bdd49e2e33adf7793cbb9730c9e9d7698fe", func := "chartroom/chartroomlaw10.PakeMasks", spec := "pakeMasks", unfollowed := true, recurses := true, named := ["math/bits.divideError", "math/bits.overflowError", "chartroom/digest.start", "chartroom/digest.numbers"], apart := false, laid := [("chartroom/digest.start", laid_chartroom_digest_start), ("chartroom/digest.numbers", laid_chartroom_digest_numbers)] }
def PakeMasksSaid : Prop := pakeMasksRow.holds Tryd.pinned (OpenSpec.ofChange pakeMasksSpec)

/-- ITS FALSE NEIGHBOUR: 'it returns false'. Refute it at one input. -/
def pakeMasksWrong : ChangeSpec := { name := "pakeMasks", fn := fun _ => fun
  | [d1, d2, d3, d4] => { results := [.lit (.bool false)], args := [d1, d2, d3, d4] }
  | _ => none }
def PakeMasksWrongFalsely : Prop := pakeMasksRow.holds Tryd.pinned (OpenSpec.ofChange pakeMasksWrong)

/-- 'chartroomlaw04.GroupHash': WHATEVER THE INPUT: true; the input reads as it did. -/
def groupHashSpec : ChangeSpec := { name := "groupHash", fn := fun _ => fun
  | [d1, d2] => { results := [.lit (.bool true)], args := [d1, d2] }
  | _ => none }
def groupHashRow : OpenClaim := { program := "ytelikpkekloffaadoor", sum := "f7e850f08ec51647e10f2bf68fdc6bdd49e2e33adf7793cbb9730c9e9d7698fe", func := "chartroom/chartroomlaw04.GroupHash", spec := "groupHash", unfollowed := true, recurses := true, named := ["math/bits.divideError", "math/bits.overflowError", "chartroom/digest.start", "chartroom/digest.numbers"], apart := false, laid := [("chartroom/digest.start", laid_chartroom_digest_start), ("chartroom/digest.numbers", laid_chartroom_digest_numbers)] }
def GroupHashSaid : Prop := groupHashRow.holds Tryd.pinned (OpenSpec.ofChange groupHashSpec)

/-- ITS FALSE NEIGHBOUR: 'it returns false'. Refute it at one input. -/
def groupHashWrong : ChangeSpec := { name := "groupHash", fn := fun _ => fun
  | [d1, d2] => { results := [.lit (.bool false)], args := [d1, d2] }
  | _ => none }
def GroupHashWrongFalsely : Prop := groupHashRow.holds Tryd.pinned (OpenSpec.ofChange groupHashWrong)

/-- 'chartroomlaw10.PakeCodes': WHATEVER THE INPUT: true; the input reads as it did. -/
def pakeCodesSpec : ChangeSpec := { name := "pakeCodes", fn := fun _ => fun
  | [d1, d2, d3, d4] => { results := [.lit (.bool true)], args := [d1, d2, d3, d4] }
  | _ => none }
def pakeCodesRow : OpenClaim := { program := "ytelikpkekloffaadoor", sum := "f7e850f08ec51647e10f2bf68fdc6bdd49e2e33adf7793cbb9730c9e9d7698fe", func := "chartroom/chartroomlaw10.PakeCodes", spec := "pakeCodes", unfollowed := true, recurses := true, named := ["math/bits.divideError", "math/bits.overflowError", "chartroom/digest.start", "chartroom/digest.numbers"], apart := false, laid := [("chartroom/digest.start", laid_chartroom_digest_start), ("chartroom/digest.numbers", laid_chartroom_digest_numbers)] }
def PakeCodesSaid : Prop := pakeCodesRow.holds Tryd.pinned (OpenSpec.ofChange pakeCodesSpec)

/-- ITS FALSE NEIGHBOUR: 'it returns false'. Refute it at one input. -/
def pakeCodesWrong : ChangeSpec := { name := "pakeCodes", fn := fun _ => fun
  | [d1, d2, d3, d4] => { results := [.lit (.bool false)], args := [d1, d2, d3, d4] }
  | _ => none }
def PakeCodesWrongFalsely : Prop := pakeCodesRow.holds Tryd.pinned (OpenSpec.ofChange pakeCodesWrong)

/-- 'chartroomlaw04.GroupDetermined': WHATEVER THE INPUT: true; the input reads as it did. -/
def groupDeterminedSpec : ChangeSpec := { name := "groupDetermined", fn := fun _ => fun
  | [d1, d2, d3, d4] => { results := [.lit (.bool true)], args := [d1, d2, d3, d4] }
  | _ => none }
def groupDeterminedRow : OpenClaim := { program := "ytelikpkekloffaadoor", sum := "f7e850f08ec51647e10f2bf68fdc6bdd49e2e33adf7793cbb9730c9e9d7698fe", func := "chartroom/chartroomlaw04.GroupDetermined", spec := "groupDetermined", unfollowed := true, recurses := true, named := ["math/bits.divideError", "math/bits.overflowError", "chartroom/digest.start", "chartroom/digest.numbers"], apart := false, laid := [("chartroom/digest.start", laid_chartroom_digest_start), ("chartroom/digest.numbers", laid_chartroom_digest_numbers)] }
def GroupDeterminedSaid : Prop := groupDeterminedRow.holds Tryd.pinned (OpenSpec.ofChange groupDeterminedSpec)

/-- ITS FALSE NEIGHBOUR: 'it returns false'. Refute it at one input. -/
def groupDeterminedWrong : ChangeSpec := { name := "groupDetermined", fn := fun _ => fun
  | [d1, d2, d3, d4] => { results := [.lit (.bool false)], args := [d1, d2, d3, d4] }
  | _ => none }
def GroupDeterminedWrongFalsely : Prop := groupDeterminedRow.holds Tryd.pinned (OpenSpec.ofChange groupDeterminedWrong)

/-- 'chartroomlaw10.PakePointSpec': WHATEVER THE INPUT: true; the input reads as it did. -/
def pakePointSpecSpec : ChangeSpec := { name := "pakePointSpec", fn := fun _ => fun
  | [d] => { results := [.lit (.bool true)], args := [d] }
  | _ => none }
def pakePointSpecRow : OpenClaim := { program := "ytelikpkekloffaadoor", sum := "f7e850f08ec51647e10f2bf68fdc6bdd49e2e33adf7793cbb9730c9e9d7698fe", func := "chartroom/chartroomlaw10.PakePointSpec", spec := "pakePointSpec", unfollowed := true, recurses := true, named := ["math/bits.divideError", "math/bits.overflowError", "chartroom/digest.start", "chartroom/digest.numbers"], apart := false, laid := [("chartroom/digest.start", laid_chartroom_digest_start), ("chartroom/digest.numbers", laid_chartroom_digest_numbers)] }
def PakePointSpecSaid : Prop := pakePointSpecRow.holds Tryd.pinned (OpenSpec.ofChange pakePointSpecSpec)

/-- ITS FALSE NEIGHBOUR: 'it returns false'. Refute it at one input. -/
def pakePointSpecWrong : ChangeSpec := { name := "pakePointSpec", fn := fun _ => fun
  | [d] => { results := [.lit (.bool false)], args := [d] }
  | _ => none }
def PakePointSpecWrongFalsely : Prop := pakePointSpecRow.holds Tryd.pinned (OpenSpec.ofChange pakePointSpecWrong)

/-- 'chartroomlaw10.PakeSharedSpec': WHATEVER THE INPUT: true; the input reads as it did. -/
def pakeSharedSpecSpec : ChangeSpec := { name := "pakeSharedSpec", fn := fun _ => fun
  | [d1, d2, d3] => { results := [.lit (.bool true)], args := [d1, d2, d3] }
  | _ => none }
def pakeSharedSpecRow : OpenClaim := { program := "ytelikpkekloffaadoor", sum := "f7e850f08ec51647e10f2bf68fdc6bdd49e2e33adf7793cbb9730c9e9d7698fe", func := "chartroom/chartroomlaw10.PakeSharedSpec", spec := "pakeSharedSpec", unfollowed := true, recurses := true, named := ["math/bits.divideError", "math/bits.overflowError", "chartroom/digest.start", "chartroom/digest.numbers"], apart := false, laid := [("chartroom/digest.start", laid_chartroom_digest_start), ("chartroom/digest.numbers", laid_chartroom_digest_numbers)] }
def PakeSharedSpecSaid : Prop := pakeSharedSpecRow.holds Tryd.pinned (OpenSpec.ofChange pakeSharedSpecSpec)

/-- ITS FALSE NEIGHBOUR: 'it returns false'. Refute it at one input. -/
def pakeSharedSpecWrong : ChangeSpec := { name := "pakeSharedSpec", fn := fun _ => fun
  | [d1, d2, d3] => { results := [.lit (.bool false)], args := [d1, d2, d3] }
  | _ => none }
def PakeSharedSpecWrongFalsely : Prop := pakeSharedSpecRow.holds Tryd.pinned (OpenSpec.ofChange pakeSharedSpecWrong)

/-- 'chartroomlaw10.PakeAgree': WHATEVER THE INPUT: true; the input reads as it did. -/
def pakeAgreeSpec : ChangeSpec := { name := "pakeAgree", fn := fun _ => fun
  | [d1, d2, d3] => { results := [.lit (.bool true)], args := [d1, d2, d3] }
  | _ => none }
def pakeAgreeRow : OpenClaim := { program := "ytelikpkekloffaadoor", sum := "f7e850f08ec51647e10f2bf68fdc6bdd49e2e33adf7793cbb9730c9e9d7698fe", func := "chartroom/chartroomlaw10.PakeAgree", spec := "pakeAgree", unfollowed := true, recurses := true, named := ["math/bits.divideError", "math/bits.overflowError", "chartroom/digest.start", "chartroom/digest.numbers"], apart := false, laid := [("chartroom/digest.start", laid_chartroom_digest_start), ("chartroom/digest.numbers", laid_chartroom_digest_numbers)] }
def PakeAgreeSaid : Prop := pakeAgreeRow.holds Tryd.pinned (OpenSpec.ofChange pakeAgreeSpec)

/-- ITS FALSE NEIGHBOUR: 'it returns false'. Refute it at one input. -/
def pakeAgreeWrong : ChangeSpec := { name := "pakeAgree", fn := fun _ => fun
  | [d1, d2, d3] => { results := [.lit (.bool false)], args := [d1, d2, d3] }
  | _ => none }
def PakeAgreeWrongFalsely : Prop := pakeAgreeRow.holds Tryd.pinned (OpenSpec.ofChange pakeAgreeWrong)

/-- 'chartroomlaw10.PakeProofs': WHATEVER THE INPUT: true; the input reads as it did. -/
def pakeProofsSpec : ChangeSpec := { name := "pakeProofs", fn := fun _ => fun
  | [d1, d2, d3, d4, d5] => { results := [.lit (.bool true)], args := [d1, d2, d3, d4, d5] }
  | _ => none }
def pakeProofsRow : OpenClaim := { program := "ytelikpkekloffaadoor", sum := "f7e850f08ec51647e10f2bf68fdc6bdd49e2e33adf7793cbb9730c9e9d7698fe", func := "chartroom/chartroomlaw10.PakeProofs", spec := "pakeProofs", unfollowed := true, recurses := true, named := ["math/bits.divideError", "math/bits.overflowError", "chartroom/digest.start", "chartroom/digest.numbers"], apart := false, laid := [("chartroom/digest.start", laid_chartroom_digest_start), ("chartroom/digest.numbers", laid_chartroom_digest_numbers)] }
def PakeProofsSaid : Prop := pakeProofsRow.holds Tryd.pinned (OpenSpec.ofChange pakeProofsSpec)

/-- ITS FALSE NEIGHBOUR: 'it returns false'. Refute it at one input. -/
def pakeProofsWrong : ChangeSpec := { name := "pakeProofs", fn := fun _ => fun
  | [d1, d2, d3, d4, d5] => { results := [.lit (.bool false)], args := [d1, d2, d3, d4, d5] }
  | _ => none }
def PakeProofsWrongFalsely : Prop := pakeProofsRow.holds Tryd.pinned (OpenSpec.ofChange pakeProofsWrong)

/-- 'chartroomlaw10.PakeRefused': WHATEVER THE INPUT: true; the input reads as it did. -/
def pakeRefusedSpec : ChangeSpec := { name := "pakeRefused", fn := fun _ => fun
  | [d1, d2, d3] => { results := [.lit (.bool true)], args := [d1, d2, d3] }
  | _ => none }
def pakeRefusedRow : OpenClaim := { program := "ytelikpkekloffaadoor", sum := "f7e850f08ec51647e10f2bf68fdc6bdd49e2e33adf7793cbb9730c9e9d7698fe", func := "chartroom/chartroomlaw10.PakeRefused", spec := "pakeRefused", unfollowed := true, recurses := true, named := ["math/bits.divideError", "math/bits.overflowError", "chartroom/digest.start", "chartroom/digest.numbers"], apart := false, laid := [("chartroom/digest.start", laid_chartroom_digest_start), ("chartroom/digest.numbers", laid_chartroom_digest_numbers)] }
def PakeRefusedSaid : Prop := pakeRefusedRow.holds Tryd.pinned (OpenSpec.ofChange pakeRefusedSpec)

/-- ITS FALSE NEIGHBOUR: 'it returns false'. Refute it at one input. -/
def pakeRefusedWrong : ChangeSpec := { name := "pakeRefused", fn := fun _ => fun
  | [d1, d2, d3] => { results := [.lit (.bool false)], args := [d1, d2, d3] }
  | _ => none }
def PakeRefusedWrongFalsely : Prop := pakeRefusedRow.holds Tryd.pinned (OpenSpec.ofChange pakeRefusedWrong)

/-- 'chartroomlaw05.SignPublicSpec': WHATEVER THE INPUT: true; the input reads as it did. -/
def signPublicSpecSpec : ChangeSpec := { name := "signPublicSpec", fn := fun _ => fun
  | [d1, d2] => { results := [.lit (.bool true)], args := [d1, d2] }
  | _ => none }
def signPublicSpecRow : OpenClaim := { program := "ytelikpkekloffaadoor", sum := "f7e850f08ec51647e10f2bf68fdc6bdd49e2e33adf7793cbb9730c9e9d7698fe", func := "chartroom/chartroomlaw05.SignPublicSpec", spec := "signPublicSpec", unfollowed := true, recurses := true, named := ["math/bits.divideError", "math/bits.overflowError", "chartroom/digest.start", "chartroom/digest.numbers"], apart := false, laid := [("chartroom/digest.start", laid_chartroom_digest_start), ("chartroom/digest.numbers", laid_chartroom_digest_numbers)] }
def SignPublicSpecSaid : Prop := signPublicSpecRow.holds Tryd.pinned (OpenSpec.ofChange signPublicSpecSpec)

/-- ITS FALSE NEIGHBOUR: 'it returns false'. Refute it at one input. -/
def signPublicSpecWrong : ChangeSpec := { name := "signPublicSpec", fn := fun _ => fun
  | [d1, d2] => { results := [.lit (.bool false)], args := [d1, d2] }
  | _ => none }
def SignPublicSpecWrongFalsely : Prop := signPublicSpecRow.holds Tryd.pinned (OpenSpec.ofChange signPublicSpecWrong)

/-- 'chartroomlaw05.SignVerifySpec': WHATEVER THE INPUT: true; the input reads as it did. -/
def signVerifySpecSpec : ChangeSpec := { name := "signVerifySpec", fn := fun _ => fun
  | [d1, d2, d3] => { results := [.lit (.bool true)], args := [d1, d2, d3] }
  | _ => none }
def signVerifySpecRow : OpenClaim := { program := "ytelikpkekloffaadoor", sum := "f7e850f08ec51647e10f2bf68fdc6bdd49e2e33adf7793cbb9730c9e9d7698fe", func := "chartroom/chartroomlaw05.SignVerifySpec", spec := "signVerifySpec", unfollowed := true, recurses := true, named := ["math/bits.divideError", "math/bits.overflowError", "chartroom/digest.start", "chartroom/digest.numbers"], apart := false, laid := [("chartroom/digest.start", laid_chartroom_digest_start), ("chartroom/digest.numbers", laid_chartroom_digest_numbers)] }
def SignVerifySpecSaid : Prop := signVerifySpecRow.holds Tryd.pinned (OpenSpec.ofChange signVerifySpecSpec)

/-- ITS FALSE NEIGHBOUR: 'it returns false'. Refute it at one input. -/
def signVerifySpecWrong : ChangeSpec := { name := "signVerifySpec", fn := fun _ => fun
  | [d1, d2, d3] => { results := [.lit (.bool false)], args := [d1, d2, d3] }
  | _ => none }
def SignVerifySpecWrongFalsely : Prop := signVerifySpecRow.holds Tryd.pinned (OpenSpec.ofChange signVerifySpecWrong)

/-- 'chartroomlaw05.SignVerifies': WHATEVER THE INPUT: true; the input reads as it did. -/
def signVerifiesSpec : ChangeSpec := { name := "signVerifies", fn := fun _ => fun
  | [d1, d2] => { results := [.lit (.bool true)], args := [d1, d2] }
  | _ => none }
def signVerifiesRow : OpenClaim := { program := "ytelikpkekloffaadoor", sum := "f7e850f08ec51647e10f2bf68fdc6bdd49e2e33adf7793cbb9730c9e9d7698fe", func := "chartroom/chartroomlaw05.SignVerifies", spec := "signVerifies", unfollowed := true, recurses := true, named := ["math/bits.divideError", "math/bits.overflowError", "chartroom/digest.start", "chartroom/digest.numbers"], apart := false, laid := [("chartroom/digest.start", laid_chartroom_digest_start), ("chartroom/digest.numbers", laid_chartroom_digest_numbers)] }
def SignVerifiesSaid : Prop := signVerifiesRow.holds Tryd.pinned (OpenSpec.ofChange signVerifiesSpec)

/-- ITS FALSE NEIGHBOUR: 'it returns false'. Refute it at one input. -/
def signVerifiesWrong : ChangeSpec := { name := "signVerifies", fn := fun _ => fun
  | [d1, d2] => { results := [.lit (.bool false)], args := [d1, d2] }
  | _ => none }
def SignVerifiesWrongFalsely : Prop := signVerifiesRow.holds Tryd.pinned (OpenSpec.ofChange signVerifiesWrong)

/-- 'chartroomlaw05.SignEquation': WHATEVER THE INPUT: true; the input reads as it did. -/
def signEquationSpec : ChangeSpec := { name := "signEquation", fn := fun _ => fun
  | [d1, d2, d3] => { results := [.lit (.bool true)], args := [d1, d2, d3] }
  | _ => none }
def signEquationRow : OpenClaim := { program := "ytelikpkekloffaadoor", sum := "f7e850f08ec51647e10f2bf68fdc6bdd49e2e33adf7793cbb9730c9e9d7698fe", func := "chartroom/chartroomlaw05.SignEquation", spec := "signEquation", unfollowed := true, recurses := true, named := ["math/bits.divideError", "math/bits.overflowError", "chartroom/digest.start", "chartroom/digest.numbers"], apart := false, laid := [("chartroom/digest.start", laid_chartroom_digest_start), ("chartroom/digest.numbers", laid_chartroom_digest_numbers)] }
def SignEquationSaid : Prop := signEquationRow.holds Tryd.pinned (OpenSpec.ofChange signEquationSpec)

/-- ITS FALSE NEIGHBOUR: 'it returns false'. Refute it at one input. -/
def signEquationWrong : ChangeSpec := { name := "signEquation", fn := fun _ => fun
  | [d1, d2, d3] => { results := [.lit (.bool false)], args := [d1, d2, d3] }
  | _ => none }
def SignEquationWrongFalsely : Prop := signEquationRow.holds Tryd.pinned (OpenSpec.ofChange signEquationWrong)

/-- 'chartroomlaw05.SignOnly': WHATEVER THE INPUT: true; the input reads as it did. -/
def signOnlySpec : ChangeSpec := { name := "signOnly", fn := fun _ => fun
  | [d1, d2, d3] => { results := [.lit (.bool true)], args := [d1, d2, d3] }
  | _ => none }
def signOnlyRow : OpenClaim := { program := "ytelikpkekloffaadoor", sum := "f7e850f08ec51647e10f2bf68fdc6bdd49e2e33adf7793cbb9730c9e9d7698fe", func := "chartroom/chartroomlaw05.SignOnly", spec := "signOnly", unfollowed := true, recurses := true, named := ["math/bits.divideError", "math/bits.overflowError", "chartroom/digest.start", "chartroom/digest.numbers"], apart := false, laid := [("chartroom/digest.start", laid_chartroom_digest_start), ("chartroom/digest.numbers", laid_chartroom_digest_numbers)] }
def SignOnlySaid : Prop := signOnlyRow.holds Tryd.pinned (OpenSpec.ofChange signOnlySpec)

/-- ITS FALSE NEIGHBOUR: 'it returns false'. Refute it at one input. -/
def signOnlyWrong : ChangeSpec := { name := "signOnly", fn := fun _ => fun
  | [d1, d2, d3] => { results := [.lit (.bool false)], args := [d1, d2, d3] }
  | _ => none }
def SignOnlyWrongFalsely : Prop := signOnlyRow.holds Tryd.pinned (OpenSpec.ofChange signOnlyWrong)

/-- 'chartroomlaw05.SignNonce': WHATEVER THE INPUT: true; the input reads as it did. -/
def signNonceSpec : ChangeSpec := { name := "signNonce", fn := fun _ => fun
  | [d1, d2] => { results := [.lit (.bool true)], args := [d1, d2] }
  | _ => none }
def signNonceRow : OpenClaim := { program := "ytelikpkekloffaadoor", sum := "f7e850f08ec51647e10f2bf68fdc6bdd49e2e33adf7793cbb9730c9e9d7698fe", func := "chartroom/chartroomlaw05.SignNonce", spec := "signNonce", unfollowed := true, recurses := true, named := ["math/bits.divideError", "math/bits.overflowError", "chartroom/digest.start", "chartroom/digest.numbers"], apart := false, laid := [("chartroom/digest.start", laid_chartroom_digest_start), ("chartroom/digest.numbers", laid_chartroom_digest_numbers)] }
def SignNonceSaid : Prop := signNonceRow.holds Tryd.pinned (OpenSpec.ofChange signNonceSpec)

/-- ITS FALSE NEIGHBOUR: 'it returns false'. Refute it at one input. -/
def signNonceWrong : ChangeSpec := { name := "signNonce", fn := fun _ => fun
  | [d1, d2] => { results := [.lit (.bool false)], args := [d1, d2] }
  | _ => none }
def SignNonceWrongFalsely : Prop := signNonceRow.holds Tryd.pinned (OpenSpec.ofChange signNonceWrong)

/-- 'chartroomlaw05.SignDifference': WHATEVER THE INPUT: true; the input reads as it did. -/
def signDifferenceSpec : ChangeSpec := { name := "signDifference", fn := fun _ => fun
  | [d1, d2, d3] => { results := [.lit (.bool true)], args := [d1, d2, d3] }
  | _ => none }
def signDifferenceRow : OpenClaim := { program := "ytelikpkekloffaadoor", sum := "f7e850f08ec51647e10f2bf68fdc6bdd49e2e33adf7793cbb9730c9e9d7698fe", func := "chartroom/chartroomlaw05.SignDifference", spec := "signDifference", unfollowed := true, recurses := true, named := ["math/bits.divideError", "math/bits.overflowError", "chartroom/digest.start", "chartroom/digest.numbers"], apart := false, laid := [("chartroom/digest.start", laid_chartroom_digest_start), ("chartroom/digest.numbers", laid_chartroom_digest_numbers)] }
def SignDifferenceSaid : Prop := signDifferenceRow.holds Tryd.pinned (OpenSpec.ofChange signDifferenceSpec)

/-- ITS FALSE NEIGHBOUR: 'it returns false'. Refute it at one input. -/
def signDifferenceWrong : ChangeSpec := { name := "signDifference", fn := fun _ => fun
  | [d1, d2, d3] => { results := [.lit (.bool false)], args := [d1, d2, d3] }
  | _ => none }
def SignDifferenceWrongFalsely : Prop := signDifferenceRow.holds Tryd.pinned (OpenSpec.ofChange signDifferenceWrong)

/- THE SECOND FORM. 'bulk': how many values and letters a reading holds, each counted each time it is reached (what is shared counts as often as it is met; a slice's spare places count too). A statement '..UptoSaid' is the law's where the arguments, and the package variables that the reading takes, are together of bulk at most 1048576: NARROWER than '..Said'. Prove '..Said' where nothing that the law and all that it calls make is longer than what came in: it says more and counts as full. Else prove '..UptoSaid'. A law counts once. -/
mutual
def uptoBulk {H : Type} : DataW H → Nat
  | .lit (.string bytes) => bytes.length + 1
  | .lit _ => 1
  | .nil => 1
  | .ptr d => uptoBulk d + 1
  | .slice elems spare => uptoBulkAll elems + uptoBulkAll spare + 1
  | .agg parts => uptoBulkAll parts + 1
  | .iface _ d => uptoBulk d + 1
  | .map entries => uptoBulkEntries entries + 1
  | .held _ => 1
def uptoBulkAll {H : Type} : List (DataW H) → Nat
  | [] => 0
  | d :: r => uptoBulk d + uptoBulkAll r
def uptoBulkEntries {H : Type} : List (Lit × DataW H) → Nat
  | [] => 0
  | x :: r => uptoBulkEntry x + uptoBulkEntries r
def uptoBulkEntry {H : Type} : Lit × DataW H → Nat
  | (.string bytes, d) => bytes.length + uptoBulk d + 1
  | (_, d) => uptoBulk d + 1
 end
def uptoSmall : (H : Type) → List (DataW H) → Bool := fun _ ds => decide (uptoBulkAll ds ≤ 1048576)
def OpenSpec.upto (s : _root_.Go.ChangeSpec) : _root_.Go.OpenSpec := { _root_.Go.OpenSpec.ofChange s with cond := some uptoSmall }

/-- 'chartroomlaw10.PakeMasks', WHERE WHAT IT READS IS OF BULK AT MOST 1048576: true; the input reads as it did. -/
def pakeMasksUptoRow : OpenClaim := { program := "ytelikpkekloffaadoor", sum := "f7e850f08ec51647e10f2bf68fdc6bdd49e2e33adf7793cbb9730c9e9d7698fe", func := "chartroom/chartroomlaw10.PakeMasks", spec := "pakeMasks", unfollowed := true, recurses := true, named := ["math/bits.divideError", "math/bits.overflowError", "chartroom/digest.start", "chartroom/digest.numbers"], apart := false, laid := [("chartroom/digest.start", laid_chartroom_digest_start), ("chartroom/digest.numbers", laid_chartroom_digest_numbers)], narrowed := true }
def PakeMasksUptoSaid : Prop := pakeMasksUptoRow.holds Tryd.pinned (OpenSpec.upto pakeMasksSpec)

/-- 'chartroomlaw04.GroupHash', WHERE WHAT IT READS IS OF BULK AT MOST 1048576: true; the input reads as it did. -/
def groupHashUptoRow : OpenClaim := { program := "ytelikpkekloffaadoor", sum := "f7e850f08ec51647e10f2bf68fdc6bdd49e2e33adf7793cbb9730c9e9d7698fe", func := "chartroom/chartroomlaw04.GroupHash", spec := "groupHash", unfollowed := true, recurses := true, named := ["math/bits.divideError", "math/bits.overflowError", "chartroom/digest.start", "chartroom/digest.numbers"], apart := false, laid := [("chartroom/digest.start", laid_chartroom_digest_start), ("chartroom/digest.numbers", laid_chartroom_digest_numbers)], narrowed := true }
def GroupHashUptoSaid : Prop := groupHashUptoRow.holds Tryd.pinned (OpenSpec.upto groupHashSpec)

/-- 'chartroomlaw10.PakeCodes', WHERE WHAT IT READS IS OF BULK AT MOST 1048576: true; the input reads as it did. -/
def pakeCodesUptoRow : OpenClaim := { program := "ytelikpkekloffaadoor", sum := "f7e850f08ec51647e10f2bf68fdc6bdd49e2e33adf7793cbb9730c9e9d7698fe", func := "chartroom/chartroomlaw10.PakeCodes", spec := "pakeCodes", unfollowed := true, recurses := true, named := ["math/bits.divideError", "math/bits.overflowError", "chartroom/digest.start", "chartroom/digest.numbers"], apart := false, laid := [("chartroom/digest.start", laid_chartroom_digest_start), ("chartroom/digest.numbers", laid_chartroom_digest_numbers)], narrowed := true }
def PakeCodesUptoSaid : Prop := pakeCodesUptoRow.holds Tryd.pinned (OpenSpec.upto pakeCodesSpec)

/-- 'chartroomlaw04.GroupDetermined', WHERE WHAT IT READS IS OF BULK AT MOST 1048576: true; the input reads as it did. -/
def groupDeterminedUptoRow : OpenClaim := { program := "ytelikpkekloffaadoor", sum := "f7e850f08ec51647e10f2bf68fdc6bdd49e2e33adf7793cbb9730c9e9d7698fe", func := "chartroom/chartroomlaw04.GroupDetermined", spec := "groupDetermined", unfollowed := true, recurses := true, named := ["math/bits.divideError", "math/bits.overflowError", "chartroom/digest.start", "chartroom/digest.numbers"], apart := false, laid := [("chartroom/digest.start", laid_chartroom_digest_start), ("chartroom/digest.numbers", laid_chartroom_digest_numbers)], narrowed := true }
def GroupDeterminedUptoSaid : Prop := groupDeterminedUptoRow.holds Tryd.pinned (OpenSpec.upto groupDeterminedSpec)

/-- 'chartroomlaw10.PakePointSpec', WHERE WHAT IT READS IS OF BULK AT MOST 1048576: true; the input reads as it did. -/
def pakePointSpecUptoRow : OpenClaim := { program := "ytelikpkekloffaadoor", sum := "f7e850f08ec51647e10f2bf68fdc6bdd49e2e33adf7793cbb9730c9e9d7698fe", func := "chartroom/chartroomlaw10.PakePointSpec", spec := "pakePointSpec", unfollowed := true, recurses := true, named := ["math/bits.divideError", "math/bits.overflowError", "chartroom/digest.start", "chartroom/digest.numbers"], apart := false, laid := [("chartroom/digest.start", laid_chartroom_digest_start), ("chartroom/digest.numbers", laid_chartroom_digest_numbers)], narrowed := true }
def PakePointSpecUptoSaid : Prop := pakePointSpecUptoRow.holds Tryd.pinned (OpenSpec.upto pakePointSpecSpec)

/-- 'chartroomlaw10.PakeSharedSpec', WHERE WHAT IT READS IS OF BULK AT MOST 1048576: true; the input reads as it did. -/
def pakeSharedSpecUptoRow : OpenClaim := { program := "ytelikpkekloffaadoor", sum := "f7e850f08ec51647e10f2bf68fdc6bdd49e2e33adf7793cbb9730c9e9d7698fe", func := "chartroom/chartroomlaw10.PakeSharedSpec", spec := "pakeSharedSpec", unfollowed := true, recurses := true, named := ["math/bits.divideError", "math/bits.overflowError", "chartroom/digest.start", "chartroom/digest.numbers"], apart := false, laid := [("chartroom/digest.start", laid_chartroom_digest_start), ("chartroom/digest.numbers", laid_chartroom_digest_numbers)], narrowed := true }
def PakeSharedSpecUptoSaid : Prop := pakeSharedSpecUptoRow.holds Tryd.pinned (OpenSpec.upto pakeSharedSpecSpec)

/-- 'chartroomlaw10.PakeAgree', WHERE WHAT IT READS IS OF BULK AT MOST 1048576: true; the input reads as it did. -/
def pakeAgreeUptoRow : OpenClaim := { program := "ytelikpkekloffaadoor", sum := "f7e850f08ec51647e10f2bf68fdc6bdd49e2e33adf7793cbb9730c9e9d7698fe", func := "chartroom/chartroomlaw10.PakeAgree", spec := "pakeAgree", unfollowed := true, recurses := true, named := ["math/bits.divideError", "math/bits.overflowError", "chartroom/digest.start", "chartroom/digest.numbers"], apart := false, laid := [("chartroom/digest.start", laid_chartroom_digest_start), ("chartroom/digest.numbers", laid_chartroom_digest_numbers)], narrowed := true }
def PakeAgreeUptoSaid : Prop := pakeAgreeUptoRow.holds Tryd.pinned (OpenSpec.upto pakeAgreeSpec)

/-- 'chartroomlaw10.PakeProofs', WHERE WHAT IT READS IS OF BULK AT MOST 1048576: true; the input reads as it did. -/
def pakeProofsUptoRow : OpenClaim := { program := "ytelikpkekloffaadoor", sum := "f7e850f08ec51647e10f2bf68fdc6bdd49e2e33adf7793cbb9730c9e9d7698fe", func := "chartroom/chartroomlaw10.PakeProofs", spec := "pakeProofs", unfollowed := true, recurses := true, named := ["math/bits.divideError", "math/bits.overflowError", "chartroom/digest.start", "chartroom/digest.numbers"], apart := false, laid := [("chartroom/digest.start", laid_chartroom_digest_start), ("chartroom/digest.numbers", laid_chartroom_digest_numbers)], narrowed := true }
def PakeProofsUptoSaid : Prop := pakeProofsUptoRow.holds Tryd.pinned (OpenSpec.upto pakeProofsSpec)

/-- 'chartroomlaw10.PakeRefused', WHERE WHAT IT READS IS OF BULK AT MOST 1048576: true; the input reads as it did. -/
def pakeRefusedUptoRow : OpenClaim := { program := "ytelikpkekloffaadoor", sum := "f7e850f08ec51647e10f2bf68fdc6bdd49e2e33adf7793cbb9730c9e9d7698fe", func := "chartroom/chartroomlaw10.PakeRefused", spec := "pakeRefused", unfollowed := true, recurses := true, named := ["math/bits.divideError", "math/bits.overflowError", "chartroom/digest.start", "chartroom/digest.numbers"], apart := false, laid := [("chartroom/digest.start", laid_chartroom_digest_start), ("chartroom/digest.numbers", laid_chartroom_digest_numbers)], narrowed := true }
def PakeRefusedUptoSaid : Prop := pakeRefusedUptoRow.holds Tryd.pinned (OpenSpec.upto pakeRefusedSpec)

/-- 'chartroomlaw05.SignPublicSpec', WHERE WHAT IT READS IS OF BULK AT MOST 1048576: true; the input reads as it did. -/
def signPublicSpecUptoRow : OpenClaim := { program := "ytelikpkekloffaadoor", sum := "f7e850f08ec51647e10f2bf68fdc6bdd49e2e33adf7793cbb9730c9e9d7698fe", func := "chartroom/chartroomlaw05.SignPublicSpec", spec := "signPublicSpec", unfollowed := true, recurses := true, named := ["math/bits.divideError", "math/bits.overflowError", "chartroom/digest.start", "chartroom/digest.numbers"], apart := false, laid := [("chartroom/digest.start", laid_chartroom_digest_start), ("chartroom/digest.numbers", laid_chartroom_digest_numbers)], narrowed := true }
def SignPublicSpecUptoSaid : Prop := signPublicSpecUptoRow.holds Tryd.pinned (OpenSpec.upto signPublicSpecSpec)

/-- 'chartroomlaw05.SignVerifySpec', WHERE WHAT IT READS IS OF BULK AT MOST 1048576: true; the input reads as it did. -/
def signVerifySpecUptoRow : OpenClaim := { program := "ytelikpkekloffaadoor", sum := "f7e850f08ec51647e10f2bf68fdc6bdd49e2e33adf7793cbb9730c9e9d7698fe", func := "chartroom/chartroomlaw05.SignVerifySpec", spec := "signVerifySpec", unfollowed := true, recurses := true, named := ["math/bits.divideError", "math/bits.overflowError", "chartroom/digest.start", "chartroom/digest.numbers"], apart := false, laid := [("chartroom/digest.start", laid_chartroom_digest_start), ("chartroom/digest.numbers", laid_chartroom_digest_numbers)], narrowed := true }
def SignVerifySpecUptoSaid : Prop := signVerifySpecUptoRow.holds Tryd.pinned (OpenSpec.upto signVerifySpecSpec)

/-- 'chartroomlaw05.SignVerifies', WHERE WHAT IT READS IS OF BULK AT MOST 1048576: true; the input reads as it did. -/
def signVerifiesUptoRow : OpenClaim := { program := "ytelikpkekloffaadoor", sum := "f7e850f08ec51647e10f2bf68fdc6bdd49e2e33adf7793cbb9730c9e9d7698fe", func := "chartroom/chartroomlaw05.SignVerifies", spec := "signVerifies", unfollowed := true, recurses := true, named := ["math/bits.divideError", "math/bits.overflowError", "chartroom/digest.start", "chartroom/digest.numbers"], apart := false, laid := [("chartroom/digest.start", laid_chartroom_digest_start), ("chartroom/digest.numbers", laid_chartroom_digest_numbers)], narrowed := true }
def SignVerifiesUptoSaid : Prop := signVerifiesUptoRow.holds Tryd.pinned (OpenSpec.upto signVerifiesSpec)

/-- 'chartroomlaw05.SignEquation', WHERE WHAT IT READS IS OF BULK AT MOST 1048576: true; the input reads as it did. -/
def signEquationUptoRow : OpenClaim := { program := "ytelikpkekloffaadoor", sum := "f7e850f08ec51647e10f2bf68fdc6bdd49e2e33adf7793cbb9730c9e9d7698fe", func := "chartroom/chartroomlaw05.SignEquation", spec := "signEquation", unfollowed := true, recurses := true, named := ["math/bits.divideError", "math/bits.overflowError", "chartroom/digest.start", "chartroom/digest.numbers"], apart := false, laid := [("chartroom/digest.start", laid_chartroom_digest_start), ("chartroom/digest.numbers", laid_chartroom_digest_numbers)], narrowed := true }
def SignEquationUptoSaid : Prop := signEquationUptoRow.holds Tryd.pinned (OpenSpec.upto signEquationSpec)

/-- 'chartroomlaw05.SignOnly', WHERE WHAT IT READS IS OF BULK AT MOST 1048576: true; the input reads as it did. -/
def signOnlyUptoRow : OpenClaim := { program := "ytelikpkekloffaadoor", sum := "f7e850f08ec51647e10f2bf68fdc6bdd49e2e33adf7793cbb9730c9e9d7698fe", func := "chartroom/chartroomlaw05.SignOnly", spec := "signOnly", unfollowed := true, recurses := true, named := ["math/bits.divideError", "math/bits.overflowError", "chartroom/digest.start", "chartroom/digest.numbers"], apart := false, laid := [("chartroom/digest.start", laid_chartroom_digest_start), ("chartroom/digest.numbers", laid_chartroom_digest_numbers)], narrowed := true }
def SignOnlyUptoSaid : Prop := signOnlyUptoRow.holds Tryd.pinned (OpenSpec.upto signOnlySpec)

/-- 'chartroomlaw05.SignNonce', WHERE WHAT IT READS IS OF BULK AT MOST 1048576: true; the input reads as it did. -/
def signNonceUptoRow : OpenClaim := { program := "ytelikpkekloffaadoor", sum := "f7e850f08ec51647e10f2bf68fdc6bdd49e2e33adf7793cbb9730c9e9d7698fe", func := "chartroom/chartroomlaw05.SignNonce", spec := "signNonce", unfollowed := true, recurses := true, named := ["math/bits.divideError", "math/bits.overflowError", "chartroom/digest.start", "chartroom/digest.numbers"], apart := false, laid := [("chartroom/digest.start", laid_chartroom_digest_start), ("chartroom/digest.numbers", laid_chartroom_digest_numbers)], narrowed := true }
def SignNonceUptoSaid : Prop := signNonceUptoRow.holds Tryd.pinned (OpenSpec.upto signNonceSpec)

/-- 'chartroomlaw05.SignDifference', WHERE WHAT IT READS IS OF BULK AT MOST 1048576: true; the input reads as it did. -/
def signDifferenceUptoRow : OpenClaim := { program := "ytelikpkekloffaadoor", sum := "f7e850f08ec51647e10f2bf68fdc6bdd49e2e33adf7793cbb9730c9e9d7698fe", func := "chartroom/chartroomlaw05.SignDifference", spec := "signDifference", unfollowed := true, recurses := true, named := ["math/bits.divideError", "math/bits.overflowError", "chartroom/digest.start", "chartroom/digest.numbers"], apart := false, laid := [("chartroom/digest.start", laid_chartroom_digest_start), ("chartroom/digest.numbers", laid_chartroom_digest_numbers)], narrowed := true }
def SignDifferenceUptoSaid : Prop := signDifferenceUptoRow.holds Tryd.pinned (OpenSpec.upto signDifferenceSpec)

end Rows
end Go.Proofs.YtelikpkekloffaaDoor
