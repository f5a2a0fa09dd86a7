/-
  NARROWER THAN 'FOR EVERY INPUT', by the rows' own cells (each row's printed sentence says how): ExactParses: laid · ExactPowerLaws: laid · ExactComputes: laid · ExactField: laid · ExactPowers: laid · ExactSpans: laid · ExactRoots: laid · ExactOrder: laid · ExactSquares: laid · ExactHolds: laid · ExactMakes: laid · ExactBoxes: laid · ExactSums: laid · ExactGrows: laid · ExactPolys: laid · ExactEncloses: laid.
  DERIVED. THE GIVEN ROWS OF THIS SEAT. 16 by the template 'for every input the law returns true; each argument reads behind the call as it read before'; 0 by the template 'total and deterministic' (their statements: YtplaobhghfndgaaGreatDoorTotals.lean).
  GIVEN WITH THE SEED: the statements are not yours to turn. If you find one false, say at which input.
  Laid BY PROGRAM, IN A SANDBOX (cutbox-rows.mjs): the forced cells as the released guide's own fill.sh prints them over the translation 6e4b65fdd9346a63… (all of the seat's roots in one cut). By AI agents, Wed Nov 11 2026. No macro, syntax, notation, axiom, sorry.
-/
import Derived.Test.YtplaobhghfndgaaGreatDoorChecked
import GoSem.PinnedTables
import GoSem.Claim
import GoSem.ClaimJoined
import GoSem.ClaimMapViews
import Derived.JoinedTies
import Derived.KernelRfl
namespace Go.Proofs.YtplaobhghfndgaaGreatDoor
/- THE CELL 'sum', in the pinned program and in every row, IS THE sha256 OF THE DUMP (.gsa) THAT YtplaobhghfndgaaGreatDoorProg.lean LOADS. Nothing in Lean hashes anything: it is a label: what it is worth is what the hold of that sum in a sandbox is worth. -/
noncomputable def Tryz.pinned : Pinned := { name := "ytplaobhghfndgaagreatdoor", sum := "6e4b65fdd9346a633ca54ddab8f66661b88f5db89a72d0b9dabf45d9ca78e13b", checked := Tryz.checked }
namespace Rows
def none {H : Type} : Left H := { results := [], args := [] }

/- WHAT THE LISTED PACKAGE-LEVEL VARIABLES READ AS WHEN THE CALL BEGINS. Each datum BY PROGRAM (the guide's laid-datum.mjs) off the statement by which the dump's own 'gosem.cut.vars' lays the variable. In a bare row this is a premise. The card (YtplaobhghfndgaaGreatDoorCards.lean) ties it to the program's text. -/
def laid_unicode_utf8_acceptRanges {H : Type} : DataW H := .agg [.agg [.lit (.int .u8 128), .lit (.int .u8 191)], .agg [.lit (.int .u8 160), .lit (.int .u8 191)], .agg [.lit (.int .u8 128), .lit (.int .u8 159)], .agg [.lit (.int .u8 144), .lit (.int .u8 191)], .agg [.lit (.int .u8 128), .lit (.int .u8 143)], .agg [.lit (.int .u8 0), .lit (.int .u8 0)], .agg [.lit (.int .u8 0), .lit (.int .u8 0)], .agg [.lit (.int .u8 0), .lit (.int .u8 0)], .agg [.lit (.int .u8 0), .lit (.int .u8 0)], .agg [.lit (.int .u8 0), .lit (.int .u8 0)], .agg [.lit (.int .u8 0), .lit (.int .u8 0)], .agg [.lit (.int .u8 0), .lit (.int .u8 0)], .agg [.lit (.int .u8 0), .lit (.int .u8 0)], .agg [.lit (.int .u8 0), .lit (.int .u8 0)], .agg [.lit (.int .u8 0), .lit (.int .u8 0)], .agg [.lit (.int .u8 0), .lit (.int .u8 0)]]
/-- One of Go's own tables, pinned by name: the form's constant. -/
def laid_unicode_utf8_first : DataW Unit := Go.Pinned.utf8First

/-- 'venturilaw01.ExactParses': WHATEVER THE INPUT: true; the input reads as it did. -/
def exactParsesSpec : ChangeSpec := { name := "exactParses", fn := fun _ => fun
  | [d] => { results := [.lit (.bool true)], args := [d] }
  | _ => none }
def exactParsesRow : OpenClaim := { program := "ytplaobhghfndgaagreatdoor", sum := "6e4b65fdd9346a633ca54ddab8f66661b88f5db89a72d0b9dabf45d9ca78e13b", func := "venturi/venturilaw01.ExactParses", spec := "exactParses", inPlace := ["internal/bytealg.IndexByteString", "internal/bytealg.IndexString", "math/bits.Add64", "math/bits.Sub64", "internal/abi.NoEscape", "internal/bytealg.MakeNoZero"], unfollowed := true, recurses := true, named := ["internal/bytealg.MaxLen", "math/bits.divideError", "math/bits.overflowError", "unicode/utf8.first", "unicode/utf8.acceptRanges"], apart := false, laid := [("unicode/utf8.acceptRanges", laid_unicode_utf8_acceptRanges), ("unicode/utf8.first", laid_unicode_utf8_first)] }
def ExactParsesSaid : Prop := exactParsesRow.holds Tryz.pinned (OpenSpec.ofChange exactParsesSpec)

/-- ITS FALSE NEIGHBOUR: 'it returns false'. Refute it at one input. -/
def exactParsesWrong : ChangeSpec := { name := "exactParses", fn := fun _ => fun
  | [d] => { results := [.lit (.bool false)], args := [d] }
  | _ => none }
def ExactParsesWrongFalsely : Prop := exactParsesRow.holds Tryz.pinned (OpenSpec.ofChange exactParsesWrong)

/-- 'venturilaw01.ExactPowerLaws': WHATEVER THE INPUT: true; the input reads as it did. -/
def exactPowerLawsSpec : ChangeSpec := { name := "exactPowerLaws", fn := fun _ => fun
  | [d] => { results := [.lit (.bool true)], args := [d] }
  | _ => none }
def exactPowerLawsRow : OpenClaim := { program := "ytplaobhghfndgaagreatdoor", sum := "6e4b65fdd9346a633ca54ddab8f66661b88f5db89a72d0b9dabf45d9ca78e13b", func := "venturi/venturilaw01.ExactPowerLaws", spec := "exactPowerLaws", inPlace := ["internal/bytealg.IndexByteString", "internal/bytealg.IndexString", "math/bits.Add64", "math/bits.Sub64", "internal/abi.NoEscape", "internal/bytealg.MakeNoZero"], unfollowed := true, recurses := true, named := ["internal/bytealg.MaxLen", "math/bits.divideError", "math/bits.overflowError", "unicode/utf8.first", "unicode/utf8.acceptRanges"], apart := false, laid := [("unicode/utf8.acceptRanges", laid_unicode_utf8_acceptRanges), ("unicode/utf8.first", laid_unicode_utf8_first)] }
def ExactPowerLawsSaid : Prop := exactPowerLawsRow.holds Tryz.pinned (OpenSpec.ofChange exactPowerLawsSpec)

/-- ITS FALSE NEIGHBOUR: 'it returns false'. Refute it at one input. -/
def exactPowerLawsWrong : ChangeSpec := { name := "exactPowerLaws", fn := fun _ => fun
  | [d] => { results := [.lit (.bool false)], args := [d] }
  | _ => none }
def ExactPowerLawsWrongFalsely : Prop := exactPowerLawsRow.holds Tryz.pinned (OpenSpec.ofChange exactPowerLawsWrong)

/-- 'venturilaw01.ExactComputes': WHATEVER THE INPUT: true; the input reads as it did. -/
def exactComputesSpec : ChangeSpec := { name := "exactComputes", fn := fun _ => fun
  | [d1, d2] => { results := [.lit (.bool true)], args := [d1, d2] }
  | _ => none }
def exactComputesRow : OpenClaim := { program := "ytplaobhghfndgaagreatdoor", sum := "6e4b65fdd9346a633ca54ddab8f66661b88f5db89a72d0b9dabf45d9ca78e13b", func := "venturi/venturilaw01.ExactComputes", spec := "exactComputes", inPlace := ["internal/bytealg.IndexByteString", "internal/bytealg.IndexString", "math/bits.Add64", "math/bits.Sub64", "internal/abi.NoEscape", "internal/bytealg.MakeNoZero"], unfollowed := true, recurses := true, named := ["internal/bytealg.MaxLen", "math/bits.divideError", "math/bits.overflowError", "unicode/utf8.first", "unicode/utf8.acceptRanges"], apart := false, laid := [("unicode/utf8.acceptRanges", laid_unicode_utf8_acceptRanges), ("unicode/utf8.first", laid_unicode_utf8_first)] }
def ExactComputesSaid : Prop := exactComputesRow.holds Tryz.pinned (OpenSpec.ofChange exactComputesSpec)

/-- ITS FALSE NEIGHBOUR: 'it returns false'. Refute it at one input. -/
def exactComputesWrong : ChangeSpec := { name := "exactComputes", fn := fun _ => fun
  | [d1, d2] => { results := [.lit (.bool false)], args := [d1, d2] }
  | _ => none }
def ExactComputesWrongFalsely : Prop := exactComputesRow.holds Tryz.pinned (OpenSpec.ofChange exactComputesWrong)

/-- 'venturilaw01.ExactField': WHATEVER THE INPUT: true; the input reads as it did. -/
def exactFieldSpec : ChangeSpec := { name := "exactField", fn := fun _ => fun
  | [d1, d2, d3] => { results := [.lit (.bool true)], args := [d1, d2, d3] }
  | _ => none }
def exactFieldRow : OpenClaim := { program := "ytplaobhghfndgaagreatdoor", sum := "6e4b65fdd9346a633ca54ddab8f66661b88f5db89a72d0b9dabf45d9ca78e13b", func := "venturi/venturilaw01.ExactField", spec := "exactField", inPlace := ["internal/bytealg.IndexByteString", "internal/bytealg.IndexString", "math/bits.Add64", "math/bits.Sub64", "internal/abi.NoEscape", "internal/bytealg.MakeNoZero"], unfollowed := true, recurses := true, named := ["internal/bytealg.MaxLen", "math/bits.divideError", "math/bits.overflowError", "unicode/utf8.first", "unicode/utf8.acceptRanges"], apart := false, laid := [("unicode/utf8.acceptRanges", laid_unicode_utf8_acceptRanges), ("unicode/utf8.first", laid_unicode_utf8_first)] }
def ExactFieldSaid : Prop := exactFieldRow.holds Tryz.pinned (OpenSpec.ofChange exactFieldSpec)

/-- ITS FALSE NEIGHBOUR: 'it returns false'. Refute it at one input. -/
def exactFieldWrong : ChangeSpec := { name := "exactField", fn := fun _ => fun
  | [d1, d2, d3] => { results := [.lit (.bool false)], args := [d1, d2, d3] }
  | _ => none }
def ExactFieldWrongFalsely : Prop := exactFieldRow.holds Tryz.pinned (OpenSpec.ofChange exactFieldWrong)

/-- 'venturilaw01.ExactPowers': WHATEVER THE INPUT: true; the input reads as it did. -/
def exactPowersSpec : ChangeSpec := { name := "exactPowers", fn := fun _ => fun
  | [d1, d2, d3] => { results := [.lit (.bool true)], args := [d1, d2, d3] }
  | _ => none }
def exactPowersRow : OpenClaim := { program := "ytplaobhghfndgaagreatdoor", sum := "6e4b65fdd9346a633ca54ddab8f66661b88f5db89a72d0b9dabf45d9ca78e13b", func := "venturi/venturilaw01.ExactPowers", spec := "exactPowers", inPlace := ["internal/bytealg.IndexByteString", "internal/bytealg.IndexString", "math/bits.Add64", "math/bits.Sub64", "internal/abi.NoEscape", "internal/bytealg.MakeNoZero"], unfollowed := true, recurses := true, named := ["internal/bytealg.MaxLen", "math/bits.divideError", "math/bits.overflowError", "unicode/utf8.first", "unicode/utf8.acceptRanges"], apart := false, laid := [("unicode/utf8.acceptRanges", laid_unicode_utf8_acceptRanges), ("unicode/utf8.first", laid_unicode_utf8_first)] }
def ExactPowersSaid : Prop := exactPowersRow.holds Tryz.pinned (OpenSpec.ofChange exactPowersSpec)

/-- ITS FALSE NEIGHBOUR: 'it returns false'. Refute it at one input. -/
def exactPowersWrong : ChangeSpec := { name := "exactPowers", fn := fun _ => fun
  | [d1, d2, d3] => { results := [.lit (.bool false)], args := [d1, d2, d3] }
  | _ => none }
def ExactPowersWrongFalsely : Prop := exactPowersRow.holds Tryz.pinned (OpenSpec.ofChange exactPowersWrong)

/-- 'venturilaw01.ExactSpans': WHATEVER THE INPUT: true; the input reads as it did. -/
def exactSpansSpec : ChangeSpec := { name := "exactSpans", fn := fun _ => fun
  | [d1, d2, d3] => { results := [.lit (.bool true)], args := [d1, d2, d3] }
  | _ => none }
def exactSpansRow : OpenClaim := { program := "ytplaobhghfndgaagreatdoor", sum := "6e4b65fdd9346a633ca54ddab8f66661b88f5db89a72d0b9dabf45d9ca78e13b", func := "venturi/venturilaw01.ExactSpans", spec := "exactSpans", inPlace := ["internal/bytealg.IndexByteString", "internal/bytealg.IndexString", "math/bits.Add64", "math/bits.Sub64", "internal/abi.NoEscape", "internal/bytealg.MakeNoZero"], unfollowed := true, recurses := true, named := ["internal/bytealg.MaxLen", "math/bits.divideError", "math/bits.overflowError", "unicode/utf8.first", "unicode/utf8.acceptRanges"], apart := false, laid := [("unicode/utf8.acceptRanges", laid_unicode_utf8_acceptRanges), ("unicode/utf8.first", laid_unicode_utf8_first)] }
def ExactSpansSaid : Prop := exactSpansRow.holds Tryz.pinned (OpenSpec.ofChange exactSpansSpec)

/-- ITS FALSE NEIGHBOUR: 'it returns false'. Refute it at one input. -/
def exactSpansWrong : ChangeSpec := { name := "exactSpans", fn := fun _ => fun
  | [d1, d2, d3] => { results := [.lit (.bool false)], args := [d1, d2, d3] }
  | _ => none }
def ExactSpansWrongFalsely : Prop := exactSpansRow.holds Tryz.pinned (OpenSpec.ofChange exactSpansWrong)

/-- 'venturilaw01.ExactRoots': WHATEVER THE INPUT: true; the input reads as it did. -/
def exactRootsSpec : ChangeSpec := { name := "exactRoots", fn := fun _ => fun
  | [d1, d2] => { results := [.lit (.bool true)], args := [d1, d2] }
  | _ => none }
def exactRootsRow : OpenClaim := { program := "ytplaobhghfndgaagreatdoor", sum := "6e4b65fdd9346a633ca54ddab8f66661b88f5db89a72d0b9dabf45d9ca78e13b", func := "venturi/venturilaw01.ExactRoots", spec := "exactRoots", inPlace := ["internal/bytealg.IndexByteString", "internal/bytealg.IndexString", "math/bits.Add64", "math/bits.Sub64", "internal/abi.NoEscape", "internal/bytealg.MakeNoZero"], unfollowed := true, recurses := true, named := ["internal/bytealg.MaxLen", "math/bits.divideError", "math/bits.overflowError", "unicode/utf8.first", "unicode/utf8.acceptRanges"], apart := false, laid := [("unicode/utf8.acceptRanges", laid_unicode_utf8_acceptRanges), ("unicode/utf8.first", laid_unicode_utf8_first)] }
def ExactRootsSaid : Prop := exactRootsRow.holds Tryz.pinned (OpenSpec.ofChange exactRootsSpec)

/-- ITS FALSE NEIGHBOUR: 'it returns false'. Refute it at one input. -/
def exactRootsWrong : ChangeSpec := { name := "exactRoots", fn := fun _ => fun
  | [d1, d2] => { results := [.lit (.bool false)], args := [d1, d2] }
  | _ => none }
def ExactRootsWrongFalsely : Prop := exactRootsRow.holds Tryz.pinned (OpenSpec.ofChange exactRootsWrong)

/-- 'venturilaw01.ExactOrder': WHATEVER THE INPUT: true; the input reads as it did. -/
def exactOrderSpec : ChangeSpec := { name := "exactOrder", fn := fun _ => fun
  | [d1, d2, d3] => { results := [.lit (.bool true)], args := [d1, d2, d3] }
  | _ => none }
def exactOrderRow : OpenClaim := { program := "ytplaobhghfndgaagreatdoor", sum := "6e4b65fdd9346a633ca54ddab8f66661b88f5db89a72d0b9dabf45d9ca78e13b", func := "venturi/venturilaw01.ExactOrder", spec := "exactOrder", inPlace := ["internal/bytealg.IndexByteString", "internal/bytealg.IndexString", "math/bits.Add64", "math/bits.Sub64", "internal/abi.NoEscape", "internal/bytealg.MakeNoZero"], unfollowed := true, recurses := true, named := ["internal/bytealg.MaxLen", "math/bits.divideError", "math/bits.overflowError", "unicode/utf8.first", "unicode/utf8.acceptRanges"], apart := false, laid := [("unicode/utf8.acceptRanges", laid_unicode_utf8_acceptRanges), ("unicode/utf8.first", laid_unicode_utf8_first)] }
def ExactOrderSaid : Prop := exactOrderRow.holds Tryz.pinned (OpenSpec.ofChange exactOrderSpec)

/-- ITS FALSE NEIGHBOUR: 'it returns false'. Refute it at one input. -/
def exactOrderWrong : ChangeSpec := { name := "exactOrder", fn := fun _ => fun
  | [d1, d2, d3] => { results := [.lit (.bool false)], args := [d1, d2, d3] }
  | _ => none }
def ExactOrderWrongFalsely : Prop := exactOrderRow.holds Tryz.pinned (OpenSpec.ofChange exactOrderWrong)

/-- 'venturilaw01.ExactSquares': WHATEVER THE INPUT: true; the input reads as it did. -/
def exactSquaresSpec : ChangeSpec := { name := "exactSquares", fn := fun _ => fun
  | [d1, d2, d3] => { results := [.lit (.bool true)], args := [d1, d2, d3] }
  | _ => none }
def exactSquaresRow : OpenClaim := { program := "ytplaobhghfndgaagreatdoor", sum := "6e4b65fdd9346a633ca54ddab8f66661b88f5db89a72d0b9dabf45d9ca78e13b", func := "venturi/venturilaw01.ExactSquares", spec := "exactSquares", inPlace := ["internal/bytealg.IndexByteString", "internal/bytealg.IndexString", "math/bits.Add64", "math/bits.Sub64", "internal/abi.NoEscape", "internal/bytealg.MakeNoZero"], unfollowed := true, recurses := true, named := ["internal/bytealg.MaxLen", "math/bits.divideError", "math/bits.overflowError", "unicode/utf8.first", "unicode/utf8.acceptRanges"], apart := false, laid := [("unicode/utf8.acceptRanges", laid_unicode_utf8_acceptRanges), ("unicode/utf8.first", laid_unicode_utf8_first)] }
def ExactSquaresSaid : Prop := exactSquaresRow.holds Tryz.pinned (OpenSpec.ofChange exactSquaresSpec)

/-- ITS FALSE NEIGHBOUR: 'it returns false'. Refute it at one input. -/
def exactSquaresWrong : ChangeSpec := { name := "exactSquares", fn := fun _ => fun
  | [d1, d2, d3] => { results := [.lit (.bool false)], args := [d1, d2, d3] }
  | _ => none }
def ExactSquaresWrongFalsely : Prop := exactSquaresRow.holds Tryz.pinned (OpenSpec.ofChange exactSquaresWrong)

/-- 'venturilaw01.ExactHolds': WHATEVER THE INPUT: true; the input reads as it did. -/
def exactHoldsSpec : ChangeSpec := { name := "exactHolds", fn := fun _ => fun
  | [d] => { results := [.lit (.bool true)], args := [d] }
  | _ => none }
def exactHoldsRow : OpenClaim := { program := "ytplaobhghfndgaagreatdoor", sum := "6e4b65fdd9346a633ca54ddab8f66661b88f5db89a72d0b9dabf45d9ca78e13b", func := "venturi/venturilaw01.ExactHolds", spec := "exactHolds", inPlace := ["internal/bytealg.IndexByteString", "internal/bytealg.IndexString", "math/bits.Add64", "math/bits.Sub64", "internal/abi.NoEscape", "internal/bytealg.MakeNoZero"], unfollowed := true, recurses := true, named := ["internal/bytealg.MaxLen", "math/bits.divideError", "math/bits.overflowError", "unicode/utf8.first", "unicode/utf8.acceptRanges"], apart := false, laid := [("unicode/utf8.acceptRanges", laid_unicode_utf8_acceptRanges), ("unicode/utf8.first", laid_unicode_utf8_first)] }
def ExactHoldsSaid : Prop := exactHoldsRow.holds Tryz.pinned (OpenSpec.ofChange exactHoldsSpec)

/-- ITS FALSE NEIGHBOUR: 'it returns false'. Refute it at one input. -/
def exactHoldsWrong : ChangeSpec := { name := "exactHolds", fn := fun _ => fun
  | [d] => { results := [.lit (.bool false)], args := [d] }
  | _ => none }
def ExactHoldsWrongFalsely : Prop := exactHoldsRow.holds Tryz.pinned (OpenSpec.ofChange exactHoldsWrong)

/-- 'venturilaw01.ExactMakes': WHATEVER THE INPUT: true; the input reads as it did. -/
def exactMakesSpec : ChangeSpec := { name := "exactMakes", fn := fun _ => fun
  | [d1, d2] => { results := [.lit (.bool true)], args := [d1, d2] }
  | _ => none }
def exactMakesRow : OpenClaim := { program := "ytplaobhghfndgaagreatdoor", sum := "6e4b65fdd9346a633ca54ddab8f66661b88f5db89a72d0b9dabf45d9ca78e13b", func := "venturi/venturilaw01.ExactMakes", spec := "exactMakes", inPlace := ["internal/abi.NoEscape", "internal/bytealg.MakeNoZero", "internal/bytealg.IndexByteString", "internal/bytealg.IndexString", "math/bits.Add64", "math/bits.Sub64"], unfollowed := true, recurses := true, named := ["math/bits.divideError", "math/bits.overflowError", "unicode/utf8.first", "unicode/utf8.acceptRanges", "internal/bytealg.MaxLen"], apart := false, laid := [("unicode/utf8.acceptRanges", laid_unicode_utf8_acceptRanges), ("unicode/utf8.first", laid_unicode_utf8_first)] }
def ExactMakesSaid : Prop := exactMakesRow.holds Tryz.pinned (OpenSpec.ofChange exactMakesSpec)

/-- ITS FALSE NEIGHBOUR: 'it returns false'. Refute it at one input. -/
def exactMakesWrong : ChangeSpec := { name := "exactMakes", fn := fun _ => fun
  | [d1, d2] => { results := [.lit (.bool false)], args := [d1, d2] }
  | _ => none }
def ExactMakesWrongFalsely : Prop := exactMakesRow.holds Tryz.pinned (OpenSpec.ofChange exactMakesWrong)

/-- 'venturilaw01.ExactBoxes': WHATEVER THE INPUT: true; the input reads as it did. -/
def exactBoxesSpec : ChangeSpec := { name := "exactBoxes", fn := fun _ => fun
  | [d1, d2, d3] => { results := [.lit (.bool true)], args := [d1, d2, d3] }
  | _ => none }
def exactBoxesRow : OpenClaim := { program := "ytplaobhghfndgaagreatdoor", sum := "6e4b65fdd9346a633ca54ddab8f66661b88f5db89a72d0b9dabf45d9ca78e13b", func := "venturi/venturilaw01.ExactBoxes", spec := "exactBoxes", inPlace := ["internal/bytealg.IndexByteString", "internal/bytealg.IndexString", "math/bits.Add64", "math/bits.Sub64", "internal/abi.NoEscape", "internal/bytealg.MakeNoZero"], unfollowed := true, recurses := true, named := ["internal/bytealg.MaxLen", "math/bits.divideError", "math/bits.overflowError", "unicode/utf8.first", "unicode/utf8.acceptRanges"], apart := false, laid := [("unicode/utf8.acceptRanges", laid_unicode_utf8_acceptRanges), ("unicode/utf8.first", laid_unicode_utf8_first)] }
def ExactBoxesSaid : Prop := exactBoxesRow.holds Tryz.pinned (OpenSpec.ofChange exactBoxesSpec)

/-- ITS FALSE NEIGHBOUR: 'it returns false'. Refute it at one input. -/
def exactBoxesWrong : ChangeSpec := { name := "exactBoxes", fn := fun _ => fun
  | [d1, d2, d3] => { results := [.lit (.bool false)], args := [d1, d2, d3] }
  | _ => none }
def ExactBoxesWrongFalsely : Prop := exactBoxesRow.holds Tryz.pinned (OpenSpec.ofChange exactBoxesWrong)

/-- 'venturilaw01.ExactSums': WHATEVER THE INPUT: true; the input reads as it did. -/
def exactSumsSpec : ChangeSpec := { name := "exactSums", fn := fun _ => fun
  | [d1, d2] => { results := [.lit (.bool true)], args := [d1, d2] }
  | _ => none }
def exactSumsRow : OpenClaim := { program := "ytplaobhghfndgaagreatdoor", sum := "6e4b65fdd9346a633ca54ddab8f66661b88f5db89a72d0b9dabf45d9ca78e13b", func := "venturi/venturilaw01.ExactSums", spec := "exactSums", inPlace := ["internal/bytealg.IndexByteString", "internal/bytealg.IndexString", "math/bits.Add64", "math/bits.Sub64", "internal/abi.NoEscape", "internal/bytealg.MakeNoZero"], unfollowed := true, recurses := true, named := ["internal/bytealg.MaxLen", "math/bits.divideError", "math/bits.overflowError", "unicode/utf8.first", "unicode/utf8.acceptRanges"], apart := false, laid := [("unicode/utf8.acceptRanges", laid_unicode_utf8_acceptRanges), ("unicode/utf8.first", laid_unicode_utf8_first)] }
def ExactSumsSaid : Prop := exactSumsRow.holds Tryz.pinned (OpenSpec.ofChange exactSumsSpec)

/-- ITS FALSE NEIGHBOUR: 'it returns false'. Refute it at one input. -/
def exactSumsWrong : ChangeSpec := { name := "exactSums", fn := fun _ => fun
  | [d1, d2] => { results := [.lit (.bool false)], args := [d1, d2] }
  | _ => none }
def ExactSumsWrongFalsely : Prop := exactSumsRow.holds Tryz.pinned (OpenSpec.ofChange exactSumsWrong)

/-- 'venturilaw01.ExactGrows': WHATEVER THE INPUT: true; the input reads as it did. -/
def exactGrowsSpec : ChangeSpec := { name := "exactGrows", fn := fun _ => fun
  | [d] => { results := [.lit (.bool true)], args := [d] }
  | _ => none }
def exactGrowsRow : OpenClaim := { program := "ytplaobhghfndgaagreatdoor", sum := "6e4b65fdd9346a633ca54ddab8f66661b88f5db89a72d0b9dabf45d9ca78e13b", func := "venturi/venturilaw01.ExactGrows", spec := "exactGrows", inPlace := ["internal/bytealg.IndexByteString", "internal/bytealg.IndexString", "math/bits.Add64", "math/bits.Sub64", "internal/abi.NoEscape", "internal/bytealg.MakeNoZero"], unfollowed := true, recurses := true, named := ["internal/bytealg.MaxLen", "math/bits.divideError", "math/bits.overflowError", "unicode/utf8.first", "unicode/utf8.acceptRanges"], apart := false, laid := [("unicode/utf8.acceptRanges", laid_unicode_utf8_acceptRanges), ("unicode/utf8.first", laid_unicode_utf8_first)] }
def ExactGrowsSaid : Prop := exactGrowsRow.holds Tryz.pinned (OpenSpec.ofChange exactGrowsSpec)

/-- ITS FALSE NEIGHBOUR: 'it returns false'. Refute it at one input. -/
def exactGrowsWrong : ChangeSpec := { name := "exactGrows", fn := fun _ => fun
  | [d] => { results := [.lit (.bool false)], args := [d] }
  | _ => none }
def ExactGrowsWrongFalsely : Prop := exactGrowsRow.holds Tryz.pinned (OpenSpec.ofChange exactGrowsWrong)

/-- 'venturilaw01.ExactPolys': WHATEVER THE INPUT: true; the input reads as it did. -/
def exactPolysSpec : ChangeSpec := { name := "exactPolys", fn := fun _ => fun
  | [d1, d2, d3] => { results := [.lit (.bool true)], args := [d1, d2, d3] }
  | _ => none }
def exactPolysRow : OpenClaim := { program := "ytplaobhghfndgaagreatdoor", sum := "6e4b65fdd9346a633ca54ddab8f66661b88f5db89a72d0b9dabf45d9ca78e13b", func := "venturi/venturilaw01.ExactPolys", spec := "exactPolys", inPlace := ["internal/bytealg.IndexByteString", "internal/bytealg.IndexString", "math/bits.Add64", "math/bits.Sub64", "internal/abi.NoEscape", "internal/bytealg.MakeNoZero"], unfollowed := true, recurses := true, named := ["internal/bytealg.MaxLen", "math/bits.divideError", "math/bits.overflowError", "unicode/utf8.first", "unicode/utf8.acceptRanges"], apart := false, laid := [("unicode/utf8.acceptRanges", laid_unicode_utf8_acceptRanges), ("unicode/utf8.first", laid_unicode_utf8_first)] }
def ExactPolysSaid : Prop := exactPolysRow.holds Tryz.pinned (OpenSpec.ofChange exactPolysSpec)

/-- ITS FALSE NEIGHBOUR: 'it returns false'. Refute it at one input. -/
def exactPolysWrong : ChangeSpec := { name := "exactPolys", fn := fun _ => fun
  | [d1, d2, d3] => { results := [.lit (.bool false)], args := [d1, d2, d3] }
  | _ => none }
def ExactPolysWrongFalsely : Prop := exactPolysRow.holds Tryz.pinned (OpenSpec.ofChange exactPolysWrong)

/-- 'venturilaw01.ExactEncloses': WHATEVER THE INPUT: true; the input reads as it did. -/
def exactEnclosesSpec : ChangeSpec := { name := "exactEncloses", fn := fun _ => fun
  | [d] => { results := [.lit (.bool true)], args := [d] }
  | _ => none }
def exactEnclosesRow : OpenClaim := { program := "ytplaobhghfndgaagreatdoor", sum := "6e4b65fdd9346a633ca54ddab8f66661b88f5db89a72d0b9dabf45d9ca78e13b", func := "venturi/venturilaw01.ExactEncloses", spec := "exactEncloses", inPlace := ["internal/bytealg.IndexByteString", "internal/bytealg.IndexString", "math/bits.Add64", "math/bits.Sub64", "internal/abi.NoEscape", "internal/bytealg.MakeNoZero"], unfollowed := true, recurses := true, named := ["internal/bytealg.MaxLen", "math/bits.divideError", "math/bits.overflowError", "unicode/utf8.first", "unicode/utf8.acceptRanges"], apart := false, laid := [("unicode/utf8.acceptRanges", laid_unicode_utf8_acceptRanges), ("unicode/utf8.first", laid_unicode_utf8_first)] }
def ExactEnclosesSaid : Prop := exactEnclosesRow.holds Tryz.pinned (OpenSpec.ofChange exactEnclosesSpec)

/-- ITS FALSE NEIGHBOUR: 'it returns false'. Refute it at one input. -/
def exactEnclosesWrong : ChangeSpec := { name := "exactEncloses", fn := fun _ => fun
  | [d] => { results := [.lit (.bool false)], args := [d] }
  | _ => none }
def ExactEnclosesWrongFalsely : Prop := exactEnclosesRow.holds Tryz.pinned (OpenSpec.ofChange exactEnclosesWrong)

/- THE SECOND FORM. 'bulk': how many values and letters a reading holds, each counted each time it is reached (what is shared counts as often as it is met; a slice's spare places count too). A statement '..UptoSaid' is the law's where the arguments, and the package variables that the reading takes, are together of bulk at most 1048576: NARROWER than '..Said'. Prove '..Said' where nothing that the law and all that it calls make is longer than what came in: it says more and counts as full. Else prove '..UptoSaid'. A law counts once. -/
mutual
def uptoBulk {H : Type} : DataW H → Nat
  | .lit (.string bytes) => bytes.length + 1
  | .lit _ => 1
  | .nil => 1
  | .ptr d => uptoBulk d + 1
  | .slice elems spare => uptoBulkAll elems + uptoBulkAll spare + 1
  | .agg parts => uptoBulkAll parts + 1
  | .iface _ d => uptoBulk d + 1
  | .map entries => uptoBulkEntries entries + 1
  | .held _ => 1
def uptoBulkAll {H : Type} : List (DataW H) → Nat
  | [] => 0
  | d :: r => uptoBulk d + uptoBulkAll r
def uptoBulkEntries {H : Type} : List (Lit × DataW H) → Nat
  | [] => 0
  | x :: r => uptoBulkEntry x + uptoBulkEntries r
def uptoBulkEntry {H : Type} : Lit × DataW H → Nat
  | (.string bytes, d) => bytes.length + uptoBulk d + 1
  | (_, d) => uptoBulk d + 1
 end
def uptoSmall : (H : Type) → List (DataW H) → Bool := fun _ ds => decide (uptoBulkAll ds ≤ 1048576)
def OpenSpec.upto (s : _root_.Go.ChangeSpec) : _root_.Go.OpenSpec := { _root_.Go.OpenSpec.ofChange s with cond := some uptoSmall }

/-- 'venturilaw01.ExactParses', WHERE WHAT IT READS IS OF BULK AT MOST 1048576: true; the input reads as it did. -/
def exactParsesUptoRow : OpenClaim := { program := "ytplaobhghfndgaagreatdoor", sum := "6e4b65fdd9346a633ca54ddab8f66661b88f5db89a72d0b9dabf45d9ca78e13b", func := "venturi/venturilaw01.ExactParses", spec := "exactParses", inPlace := ["internal/bytealg.IndexByteString", "internal/bytealg.IndexString", "math/bits.Add64", "math/bits.Sub64", "internal/abi.NoEscape", "internal/bytealg.MakeNoZero"], unfollowed := true, recurses := true, named := ["internal/bytealg.MaxLen", "math/bits.divideError", "math/bits.overflowError", "unicode/utf8.first", "unicode/utf8.acceptRanges"], apart := false, laid := [("unicode/utf8.acceptRanges", laid_unicode_utf8_acceptRanges), ("unicode/utf8.first", laid_unicode_utf8_first)], narrowed := true }
def ExactParsesUptoSaid : Prop := exactParsesUptoRow.holds Tryz.pinned (OpenSpec.upto exactParsesSpec)

/-- 'venturilaw01.ExactPowerLaws', WHERE WHAT IT READS IS OF BULK AT MOST 1048576: true; the input reads as it did. -/
def exactPowerLawsUptoRow : OpenClaim := { program := "ytplaobhghfndgaagreatdoor", sum := "6e4b65fdd9346a633ca54ddab8f66661b88f5db89a72d0b9dabf45d9ca78e13b", func := "venturi/venturilaw01.ExactPowerLaws", spec := "exactPowerLaws", inPlace := ["internal/bytealg.IndexByteString", "internal/bytealg.IndexString", "math/bits.Add64", "math/bits.Sub64", "internal/abi.NoEscape", "internal/bytealg.MakeNoZero"], unfollowed := true, recurses := true, named := ["internal/bytealg.MaxLen", "math/bits.divideError", "math/bits.overflowError", "unicode/utf8.first", "unicode/utf8.acceptRanges"], apart := false, laid := [("unicode/utf8.acceptRanges", laid_unicode_utf8_acceptRanges), ("unicode/utf8.first", laid_unicode_utf8_first)], narrowed := true }
def ExactPowerLawsUptoSaid : Prop := exactPowerLawsUptoRow.holds Tryz.pinned (OpenSpec.upto exactPowerLawsSpec)

/-- 'venturilaw01.ExactComputes', WHERE WHAT IT READS IS OF BULK AT MOST 1048576: true; the input reads as it did. -/
def exactComputesUptoRow : OpenClaim := { program := "ytplaobhghfndgaagreatdoor", sum := "6e4b65fdd9346a633ca54ddab8f66661b88f5db89a72d0b9dabf45d9ca78e13b", func := "venturi/venturilaw01.ExactComputes", spec := "exactComputes", inPlace := ["internal/bytealg.IndexByteString", "internal/bytealg.IndexString", "math/bits.Add64", "math/bits.Sub64", "internal/abi.NoEscape", "internal/bytealg.MakeNoZero"], unfollowed := true, recurses := true, named := ["internal/bytealg.MaxLen", "math/bits.divideError", "math/bits.overflowError", "unicode/utf8.first", "unicode/utf8.acceptRanges"], apart := false, laid := [("unicode/utf8.acceptRanges", laid_unicode_utf8_acceptRanges), ("unicode/utf8.first", laid_unicode_utf8_first)], narrowed := true }
def ExactComputesUptoSaid : Prop := exactComputesUptoRow.holds Tryz.pinned (OpenSpec.upto exactComputesSpec)

/-- 'venturilaw01.ExactField', WHERE WHAT IT READS IS OF BULK AT MOST 1048576: true; the input reads as it did. -/
def exactFieldUptoRow : OpenClaim := { program := "ytplaobhghfndgaagreatdoor", sum := "6e4b65fdd9346a633ca54ddab8f66661b88f5db89a72d0b9dabf45d9ca78e13b", func := "venturi/venturilaw01.ExactField", spec := "exactField", inPlace := ["internal/bytealg.IndexByteString", "internal/bytealg.IndexString", "math/bits.Add64", "math/bits.Sub64", "internal/abi.NoEscape", "internal/bytealg.MakeNoZero"], unfollowed := true, recurses := true, named := ["internal/bytealg.MaxLen", "math/bits.divideError", "math/bits.overflowError", "unicode/utf8.first", "unicode/utf8.acceptRanges"], apart := false, laid := [("unicode/utf8.acceptRanges", laid_unicode_utf8_acceptRanges), ("unicode/utf8.first", laid_unicode_utf8_first)], narrowed := true }
def ExactFieldUptoSaid : Prop := exactFieldUptoRow.holds Tryz.pinned (OpenSpec.upto exactFieldSpec)

/-- 'venturilaw01.ExactPowers', WHERE WHAT IT READS IS OF BULK AT MOST 1048576: true; the input reads as it did. -/
def exactPowersUptoRow : OpenClaim := { program := "ytplaobhghfndgaagreatdoor", sum := "6e4b65fdd9346a633ca54ddab8f66661b88f5db89a72d0b9dabf45d9ca78e13b", func := "venturi/venturilaw01.ExactPowers", spec := "exactPowers", inPlace := ["internal/bytealg.IndexByteString", "internal/bytealg.IndexString", "math/bits.Add64", "math/bits.Sub64", "internal/abi.NoEscape", "internal/bytealg.MakeNoZero"], unfollowed := true, recurses := true, named := ["internal/bytealg.MaxLen", "math/bits.divideError", "math/bits.overflowError", "unicode/utf8.first", "unicode/utf8.acceptRanges"], apart := false, laid := [("unicode/utf8.acceptRanges", laid_unicode_utf8_acceptRanges), ("unicode/utf8.first", laid_unicode_utf8_first)], narrowed := true }
def ExactPowersUptoSaid : Prop := exactPowersUptoRow.holds Tryz.pinned (OpenSpec.upto exactPowersSpec)

/-- 'venturilaw01.ExactSpans', WHERE WHAT IT READS IS OF BULK AT MOST 1048576: true; the input reads as it did. -/
def exactSpansUptoRow : OpenClaim := { program := "ytplaobhghfndgaagreatdoor", sum := "6e4b65fdd9346a633ca54ddab8f66661b88f5db89a72d0b9dabf45d9ca78e13b", func := "venturi/venturilaw01.ExactSpans", spec := "exactSpans", inPlace := ["internal/bytealg.IndexByteString", "internal/bytealg.IndexString", "math/bits.Add64", "math/bits.Sub64", "internal/abi.NoEscape", "internal/bytealg.MakeNoZero"], unfollowed := true, recurses := true, named := ["internal/bytealg.MaxLen", "math/bits.divideError", "math/bits.overflowError", "unicode/utf8.first", "unicode/utf8.acceptRanges"], apart := false, laid := [("unicode/utf8.acceptRanges", laid_unicode_utf8_acceptRanges), ("unicode/utf8.first", laid_unicode_utf8_first)], narrowed := true }
def ExactSpansUptoSaid : Prop := exactSpansUptoRow.holds Tryz.pinned (OpenSpec.upto exactSpansSpec)

/-- 'venturilaw01.ExactRoots', WHERE WHAT IT READS IS OF BULK AT MOST 1048576: true; the input reads as it did. -/
def exactRootsUptoRow : OpenClaim := { program := "ytplaobhghfndgaagreatdoor", sum := "6e4b65fdd9346a633ca54ddab8f66661b88f5db89a72d0b9dabf45d9ca78e13b", func := "venturi/venturilaw01.ExactRoots", spec := "exactRoots", inPlace := ["internal/bytealg.IndexByteString", "internal/bytealg.IndexString", "math/bits.Add64", "math/bits.Sub64", "internal/abi.NoEscape", "internal/bytealg.MakeNoZero"], unfollowed := true, recurses := true, named := ["internal/bytealg.MaxLen", "math/bits.divideError", "math/bits.overflowError", "unicode/utf8.first", "unicode/utf8.acceptRanges"], apart := false, laid := [("unicode/utf8.acceptRanges", laid_unicode_utf8_acceptRanges), ("unicode/utf8.first", laid_unicode_utf8_first)], narrowed := true }
def ExactRootsUptoSaid : Prop := exactRootsUptoRow.holds Tryz.pinned (OpenSpec.upto exactRootsSpec)

/-- 'venturilaw01.ExactOrder', WHERE WHAT IT READS IS OF BULK AT MOST 1048576: true; the input reads as it did. -/
def exactOrderUptoRow : OpenClaim := { program := "ytplaobhghfndgaagreatdoor", sum := "6e4b65fdd9346a633ca54ddab8f66661b88f5db89a72d0b9dabf45d9ca78e13b", func := "venturi/venturilaw01.ExactOrder", spec := "exactOrder", inPlace := ["internal/bytealg.IndexByteString", "internal/bytealg.IndexString", "math/bits.Add64", "math/bits.Sub64", "internal/abi.NoEscape", "internal/bytealg.MakeNoZero"], unfollowed := true, recurses := true, named := ["internal/bytealg.MaxLen", "math/bits.divideError", "math/bits.overflowError", "unicode/utf8.first", "unicode/utf8.acceptRanges"], apart := false, laid := [("unicode/utf8.acceptRanges", laid_unicode_utf8_acceptRanges), ("unicode/utf8.first", laid_unicode_utf8_first)], narrowed := true }
def ExactOrderUptoSaid : Prop := exactOrderUptoRow.holds Tryz.pinned (OpenSpec.upto exactOrderSpec)

/-- 'venturilaw01.ExactSquares', WHERE WHAT IT READS IS OF BULK AT MOST 1048576: true; the input reads as it did. -/
def exactSquaresUptoRow : OpenClaim := { program := "ytplaobhghfndgaagreatdoor", sum := "6e4b65fdd9346a633ca54ddab8f66661b88f5db89a72d0b9dabf45d9ca78e13b", func := "venturi/venturilaw01.ExactSquares", spec := "exactSquares", inPlace := ["internal/bytealg.IndexByteString", "internal/bytealg.IndexString", "math/bits.Add64", "math/bits.Sub64", "internal/abi.NoEscape", "internal/bytealg.MakeNoZero"], unfollowed := true, recurses := true, named := ["internal/bytealg.MaxLen", "math/bits.divideError", "math/bits.overflowError", "unicode/utf8.first", "unicode/utf8.acceptRanges"], apart := false, laid := [("unicode/utf8.acceptRanges", laid_unicode_utf8_acceptRanges), ("unicode/utf8.first", laid_unicode_utf8_first)], narrowed := true }
def ExactSquaresUptoSaid : Prop := exactSquaresUptoRow.holds Tryz.pinned (OpenSpec.upto exactSquaresSpec)

/-- 'venturilaw01.ExactHolds', WHERE WHAT IT READS IS OF BULK AT MOST 1048576: true; the input reads as it did. -/
def exactHoldsUptoRow : OpenClaim := { program := "ytplaobhghfndgaagreatdoor", sum := "6e4b65fdd9346a633ca54ddab8f66661b88f5db89a72d0b9dabf45d9ca78e13b", func := "venturi/venturilaw01.ExactHolds", spec := "exactHolds", inPlace := ["internal/bytealg.IndexByteString", "internal/bytealg.IndexString", "math/bits.Add64", "math/bits.Sub64", "internal/abi.NoEscape", "internal/bytealg.MakeNoZero"], unfollowed := true, recurses := true, named := ["internal/bytealg.MaxLen", "math/bits.divideError", "math/bits.overflowError", "unicode/utf8.first", "unicode/utf8.acceptRanges"], apart := false, laid := [("unicode/utf8.acceptRanges", laid_unicode_utf8_acceptRanges), ("unicode/utf8.first", laid_unicode_utf8_first)], narrowed := true }
def ExactHoldsUptoSaid : Prop := exactHoldsUptoRow.holds Tryz.pinned (OpenSpec.upto exactHoldsSpec)

/-- 'venturilaw01.ExactMakes', WHERE WHAT IT READS IS OF BULK AT MOST 1048576: true; the input reads as it did. -/
def exactMakesUptoRow : OpenClaim := { program := "ytplaobhghfndgaagreatdoor", sum := "6e4b65fdd9346a633ca54ddab8f66661b88f5db89a72d0b9dabf45d9ca78e13b", func := "venturi/venturilaw01.ExactMakes", spec := "exactMakes", inPlace := ["internal/abi.NoEscape", "internal/bytealg.MakeNoZero", "internal/bytealg.IndexByteString", "internal/bytealg.IndexString", "math/bits.Add64", "math/bits.Sub64"], unfollowed := true, recurses := true, named := ["math/bits.divideError", "math/bits.overflowError", "unicode/utf8.first", "unicode/utf8.acceptRanges", "internal/bytealg.MaxLen"], apart := false, laid := [("unicode/utf8.acceptRanges", laid_unicode_utf8_acceptRanges), ("unicode/utf8.first", laid_unicode_utf8_first)], narrowed := true }
def ExactMakesUptoSaid : Prop := exactMakesUptoRow.holds Tryz.pinned (OpenSpec.upto exactMakesSpec)

/-- 'venturilaw01.ExactBoxes', WHERE WHAT IT READS IS OF BULK AT MOST 1048576: true; the input reads as it did. -/
def exactBoxesUptoRow : OpenClaim := { program := "ytplaobhghfndgaagreatdoor", sum := "6e4b65fdd9346a633ca54ddab8f66661b88f5db89a72d0b9dabf45d9ca78e13b", func := "venturi/venturilaw01.ExactBoxes", spec := "exactBoxes", inPlace := ["internal/bytealg.IndexByteString", "internal/bytealg.IndexString", "math/bits.Add64", "math/bits.Sub64", "internal/abi.NoEscape", "internal/bytealg.MakeNoZero"], unfollowed := true, recurses := true, named := ["internal/bytealg.MaxLen", "math/bits.divideError", "math/bits.overflowError", "unicode/utf8.first", "unicode/utf8.acceptRanges"], apart := false, laid := [("unicode/utf8.acceptRanges", laid_unicode_utf8_acceptRanges), ("unicode/utf8.first", laid_unicode_utf8_first)], narrowed := true }
def ExactBoxesUptoSaid : Prop := exactBoxesUptoRow.holds Tryz.pinned (OpenSpec.upto exactBoxesSpec)

/-- 'venturilaw01.ExactSums', WHERE WHAT IT READS IS OF BULK AT MOST 1048576: true; the input reads as it did. -/
def exactSumsUptoRow : OpenClaim := { program := "ytplaobhghfndgaagreatdoor", sum := "6e4b65fdd9346a633ca54ddab8f66661b88f5db89a72d0b9dabf45d9ca78e13b", func := "venturi/venturilaw01.ExactSums", spec := "exactSums", inPlace := ["internal/bytealg.IndexByteString", "internal/bytealg.IndexString", "math/bits.Add64", "math/bits.Sub64", "internal/abi.NoEscape", "internal/bytealg.MakeNoZero"], unfollowed := true, recurses := true, named := ["internal/bytealg.MaxLen", "math/bits.divideError", "math/bits.overflowError", "unicode/utf8.first", "unicode/utf8.acceptRanges"], apart := false, laid := [("unicode/utf8.acceptRanges", laid_unicode_utf8_acceptRanges), ("unicode/utf8.first", laid_unicode_utf8_first)], narrowed := true }
def ExactSumsUptoSaid : Prop := exactSumsUptoRow.holds Tryz.pinned (OpenSpec.upto exactSumsSpec)

/-- 'venturilaw01.ExactGrows', WHERE WHAT IT READS IS OF BULK AT MOST 1048576: true; the input reads as it did. -/
def exactGrowsUptoRow : OpenClaim := { program := "ytplaobhghfndgaagreatdoor", sum := "6e4b65fdd9346a633ca54ddab8f66661b88f5db89a72d0b9dabf45d9ca78e13b", func := "venturi/venturilaw01.ExactGrows", spec := "exactGrows", inPlace := ["internal/bytealg.IndexByteString", "internal/bytealg.IndexString", "math/bits.Add64", "math/bits.Sub64", "internal/abi.NoEscape", "internal/bytealg.MakeNoZero"], unfollowed := true, recurses := true, named := ["internal/bytealg.MaxLen", "math/bits.divideError", "math/bits.overflowError", "unicode/utf8.first", "unicode/utf8.acceptRanges"], apart := false, laid := [("unicode/utf8.acceptRanges", laid_unicode_utf8_acceptRanges), ("unicode/utf8.first", laid_unicode_utf8_first)], narrowed := true }
def ExactGrowsUptoSaid : Prop := exactGrowsUptoRow.holds Tryz.pinned (OpenSpec.upto exactGrowsSpec)

/-- 'venturilaw01.ExactPolys', WHERE WHAT IT READS IS OF BULK AT MOST 1048576: true; the input reads as it did. -/
def exactPolysUptoRow : OpenClaim := { program := "ytplaobhghfndgaagreatdoor", sum := "6e4b65fdd9346a633ca54ddab8f66661b88f5db89a72d0b9dabf45d9ca78e13b", func := "venturi/venturilaw01.ExactPolys", spec := "exactPolys", inPlace := ["internal/bytealg.IndexByteString", "internal/bytealg.IndexString", "math/bits.Add64", "math/bits.Sub64", "internal/abi.NoEscape", "internal/bytealg.MakeNoZero"], unfollowed := true, recurses := true, named := ["internal/bytealg.MaxLen", "math/bits.divideError", "math/bits.overflowError", "unicode/utf8.first", "unicode/utf8.acceptRanges"], apart := false, laid := [("unicode/utf8.acceptRanges", laid_unicode_utf8_acceptRanges), ("unicode/utf8.first", laid_unicode_utf8_first)], narrowed := true }
def ExactPolysUptoSaid : Prop := exactPolysUptoRow.holds Tryz.pinned (OpenSpec.upto exactPolysSpec)

/-- 'venturilaw01.ExactEncloses', WHERE WHAT IT READS IS OF BULK AT MOST 1048576: true; the input reads as it did. -/
def exactEnclosesUptoRow : OpenClaim := { program := "ytplaobhghfndgaagreatdoor", sum := "6e4b65fdd9346a633ca54ddab8f66661b88f5db89a72d0b9dabf45d9ca78e13b", func := "venturi/venturilaw01.ExactEncloses", spec := "exactEncloses", inPlace := ["internal/bytealg.IndexByteString", "internal/bytealg.IndexString", "math/bits.Add64", "math/bits.Sub64", "internal/abi.NoEscape", "internal/bytealg.MakeNoZero"], unfollowed := true, recurses := true, named := ["internal/bytealg.MaxLen", "math/bits.divideError", "math/bits.overflowError", "unicode/utf8.first", "unicode/utf8.acceptRanges"], apart := false, laid := [("unicode/utf8.acceptRanges", laid_unicode_utf8_acceptRanges), ("unicode/utf8.first", laid_unicode_utf8_first)], narrowed := true }
def ExactEnclosesUptoSaid : Prop := exactEnclosesUptoRow.holds Tryz.pinned (OpenSpec.upto exactEnclosesSpec)

end Rows
end Go.Proofs.YtplaobhghfndgaaGreatDoor
