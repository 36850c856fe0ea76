/-
  No cell of these rows narrows 'for every input' (looked for: loops, veiled, ifaces, maps, wideKeys, modest, calm, conditions, laid).
  DERIVED. THE GIVEN ROWS OF THIS SEAT. 22 by the template 'for every input the law returns true; each argument reads behind the call as it read before'; 0 by the template 'total and deterministic' (their statements: YtkjepfofiegcdaaTotals.lean).
  GIVEN WITH THE SEED: the statements are not yours to turn. If you find one false, say at which input.
  Laid BY PROGRAM, IN A SANDBOX (cutbox-rows.mjs): the forced cells as the released guide's own fill.sh prints them over the translation 31a63d0713687e56… (all of the seat's roots in one cut). By AI agents, Wed Nov 11 2026. No macro, syntax, notation, axiom, sorry.
-/
import Derived.Test.YtkjepfofiegcdaaChecked
import GoSem.Claim
import GoSem.ClaimJoined
import GoSem.ClaimMapViews
import Derived.JoinedTies
import Derived.KernelRfl
namespace Go.Proofs.Ytkjepfofiegcdaa
/- THE CELL 'sum', in the pinned program and in every row, IS THE sha256 OF THE DUMP (.gsa) THAT YtkjepfofiegcdaaProg.lean LOADS. Nothing in Lean hashes anything: it is a label: what it is worth is what the hold of that sum in a sandbox is worth. -/
noncomputable def Try.pinned : Pinned := { name := "ytkjepfofiegcdaa", sum := "31a63d0713687e56055836bd479f18e0e0240430e658ef504a7b5efdc9e72ca5", checked := Try.checked }
namespace Rows
def none {H : Type} : Left H := { results := [], args := [] }

/-- 'freshetlaw19.MetaBurst': WHATEVER THE INPUT: true; the input reads as it did. -/
def metaBurstSpec : ChangeSpec := { name := "metaBurst", fn := fun _ => fun
  | [d1, d2, d3] => { results := [.lit (.bool true)], args := [d1, d2, d3] }
  | _ => none }
def metaBurstRow : OpenClaim := { program := "ytkjepfofiegcdaa", sum := "31a63d0713687e56055836bd479f18e0e0240430e658ef504a7b5efdc9e72ca5", func := "freshet/freshetlaw19.MetaBurst", spec := "metaBurst", inPlace := ["slices.overlaps[freshet/api.Meta]"], unfollowed := true, recurses := true, apart := false }
def MetaBurstSaid : Prop := metaBurstRow.holds Try.pinned (OpenSpec.ofChange metaBurstSpec)

/-- ITS FALSE NEIGHBOUR: 'it returns false'. Refute it at one input. -/
def metaBurstWrong : ChangeSpec := { name := "metaBurst", fn := fun _ => fun
  | [d1, d2, d3] => { results := [.lit (.bool false)], args := [d1, d2, d3] }
  | _ => none }
def MetaBurstWrongFalsely : Prop := metaBurstRow.holds Try.pinned (OpenSpec.ofChange metaBurstWrong)

/-- 'freshetlaw19.MetaPoint': WHATEVER THE INPUT: true; the input reads as it did. -/
def metaPointSpec : ChangeSpec := { name := "metaPoint", fn := fun _ => fun
  | [d1, d2] => { results := [.lit (.bool true)], args := [d1, d2] }
  | _ => none }
def metaPointRow : OpenClaim := { program := "ytkjepfofiegcdaa", sum := "31a63d0713687e56055836bd479f18e0e0240430e658ef504a7b5efdc9e72ca5", func := "freshet/freshetlaw19.MetaPoint", spec := "metaPoint", inPlace := ["slices.overlaps[freshet/api.Meta]"], unfollowed := true, recurses := true, apart := false }
def MetaPointSaid : Prop := metaPointRow.holds Try.pinned (OpenSpec.ofChange metaPointSpec)

/-- ITS FALSE NEIGHBOUR: 'it returns false'. Refute it at one input. -/
def metaPointWrong : ChangeSpec := { name := "metaPoint", fn := fun _ => fun
  | [d1, d2] => { results := [.lit (.bool false)], args := [d1, d2] }
  | _ => none }
def MetaPointWrongFalsely : Prop := metaPointRow.holds Try.pinned (OpenSpec.ofChange metaPointWrong)

/-- 'freshetlaw16.PickDue': WHATEVER THE INPUT: true; the input reads as it did. -/
def pickDueSpec : ChangeSpec := { name := "pickDue", fn := fun _ => fun
  | [d1, d2] => { results := [.lit (.bool true)], args := [d1, d2] }
  | _ => none }
def pickDueRow : OpenClaim := { program := "ytkjepfofiegcdaa", sum := "31a63d0713687e56055836bd479f18e0e0240430e658ef504a7b5efdc9e72ca5", func := "freshet/freshetlaw16.PickDue", spec := "pickDue", unfollowed := true, recurses := true, apart := false }
def PickDueSaid : Prop := pickDueRow.holds Try.pinned (OpenSpec.ofChange pickDueSpec)

/-- ITS FALSE NEIGHBOUR: 'it returns false'. Refute it at one input. -/
def pickDueWrong : ChangeSpec := { name := "pickDue", fn := fun _ => fun
  | [d1, d2] => { results := [.lit (.bool false)], args := [d1, d2] }
  | _ => none }
def PickDueWrongFalsely : Prop := pickDueRow.holds Try.pinned (OpenSpec.ofChange pickDueWrong)

/-- 'freshetlaw16.PickOverlap': WHATEVER THE INPUT: true; the input reads as it did. -/
def pickOverlapSpec : ChangeSpec := { name := "pickOverlap", fn := fun _ => fun
  | [d1, d2] => { results := [.lit (.bool true)], args := [d1, d2] }
  | _ => none }
def pickOverlapRow : OpenClaim := { program := "ytkjepfofiegcdaa", sum := "31a63d0713687e56055836bd479f18e0e0240430e658ef504a7b5efdc9e72ca5", func := "freshet/freshetlaw16.PickOverlap", spec := "pickOverlap", unfollowed := true, recurses := true, apart := false }
def PickOverlapSaid : Prop := pickOverlapRow.holds Try.pinned (OpenSpec.ofChange pickOverlapSpec)

/-- ITS FALSE NEIGHBOUR: 'it returns false'. Refute it at one input. -/
def pickOverlapWrong : ChangeSpec := { name := "pickOverlap", fn := fun _ => fun
  | [d1, d2] => { results := [.lit (.bool false)], args := [d1, d2] }
  | _ => none }
def PickOverlapWrongFalsely : Prop := pickOverlapRow.holds Try.pinned (OpenSpec.ofChange pickOverlapWrong)

/-- 'freshetlaw16.PickBottom': WHATEVER THE INPUT: true; the input reads as it did. -/
def pickBottomSpec : ChangeSpec := { name := "pickBottom", fn := fun _ => fun
  | [d1, d2] => { results := [.lit (.bool true)], args := [d1, d2] }
  | _ => none }
def pickBottomRow : OpenClaim := { program := "ytkjepfofiegcdaa", sum := "31a63d0713687e56055836bd479f18e0e0240430e658ef504a7b5efdc9e72ca5", func := "freshet/freshetlaw16.PickBottom", spec := "pickBottom", unfollowed := true, recurses := true, apart := false }
def PickBottomSaid : Prop := pickBottomRow.holds Try.pinned (OpenSpec.ofChange pickBottomSpec)

/-- ITS FALSE NEIGHBOUR: 'it returns false'. Refute it at one input. -/
def pickBottomWrong : ChangeSpec := { name := "pickBottom", fn := fun _ => fun
  | [d1, d2] => { results := [.lit (.bool false)], args := [d1, d2] }
  | _ => none }
def PickBottomWrongFalsely : Prop := pickBottomRow.holds Try.pinned (OpenSpec.ofChange pickBottomWrong)

/-- 'freshetlaw16.PickMeets': WHATEVER THE INPUT: true; the input reads as it did. -/
def pickMeetsSpec : ChangeSpec := { name := "pickMeets", fn := fun _ => fun
  | [d1, d2] => { results := [.lit (.bool true)], args := [d1, d2] }
  | _ => none }
def pickMeetsRow : OpenClaim := { program := "ytkjepfofiegcdaa", sum := "31a63d0713687e56055836bd479f18e0e0240430e658ef504a7b5efdc9e72ca5", func := "freshet/freshetlaw16.PickMeets", spec := "pickMeets", unfollowed := true, recurses := true, apart := false }
def PickMeetsSaid : Prop := pickMeetsRow.holds Try.pinned (OpenSpec.ofChange pickMeetsSpec)

/-- ITS FALSE NEIGHBOUR: 'it returns false'. Refute it at one input. -/
def pickMeetsWrong : ChangeSpec := { name := "pickMeets", fn := fun _ => fun
  | [d1, d2] => { results := [.lit (.bool false)], args := [d1, d2] }
  | _ => none }
def PickMeetsWrongFalsely : Prop := pickMeetsRow.holds Try.pinned (OpenSpec.ofChange pickMeetsWrong)

/-- 'freshetlaw16.PickBelow': WHATEVER THE INPUT: true; the input reads as it did. -/
def pickBelowSpec : ChangeSpec := { name := "pickBelow", fn := fun _ => fun
  | [d1, d2] => { results := [.lit (.bool true)], args := [d1, d2] }
  | _ => none }
def pickBelowRow : OpenClaim := { program := "ytkjepfofiegcdaa", sum := "31a63d0713687e56055836bd479f18e0e0240430e658ef504a7b5efdc9e72ca5", func := "freshet/freshetlaw16.PickBelow", spec := "pickBelow", unfollowed := true, recurses := true, apart := false }
def PickBelowSaid : Prop := pickBelowRow.holds Try.pinned (OpenSpec.ofChange pickBelowSpec)

/-- ITS FALSE NEIGHBOUR: 'it returns false'. Refute it at one input. -/
def pickBelowWrong : ChangeSpec := { name := "pickBelow", fn := fun _ => fun
  | [d1, d2] => { results := [.lit (.bool false)], args := [d1, d2] }
  | _ => none }
def PickBelowWrongFalsely : Prop := pickBelowRow.holds Try.pinned (OpenSpec.ofChange pickBelowWrong)

/-- 'freshetlaw16.PickOver': WHATEVER THE INPUT: true; the input reads as it did. -/
def pickOverSpec : ChangeSpec := { name := "pickOver", fn := fun _ => fun
  | [d1, d2] => { results := [.lit (.bool true)], args := [d1, d2] }
  | _ => none }
def pickOverRow : OpenClaim := { program := "ytkjepfofiegcdaa", sum := "31a63d0713687e56055836bd479f18e0e0240430e658ef504a7b5efdc9e72ca5", func := "freshet/freshetlaw16.PickOver", spec := "pickOver", unfollowed := true, recurses := true, apart := false }
def PickOverSaid : Prop := pickOverRow.holds Try.pinned (OpenSpec.ofChange pickOverSpec)

/-- ITS FALSE NEIGHBOUR: 'it returns false'. Refute it at one input. -/
def pickOverWrong : ChangeSpec := { name := "pickOver", fn := fun _ => fun
  | [d1, d2] => { results := [.lit (.bool false)], args := [d1, d2] }
  | _ => none }
def PickOverWrongFalsely : Prop := pickOverRow.holds Try.pinned (OpenSpec.ofChange pickOverWrong)

/-- 'freshetlaw16.PickEdit': WHATEVER THE INPUT: true; the input reads as it did. -/
def pickEditSpec : ChangeSpec := { name := "pickEdit", fn := fun _ => fun
  | [d1, d2, d3] => { results := [.lit (.bool true)], args := [d1, d2, d3] }
  | _ => none }
def pickEditRow : OpenClaim := { program := "ytkjepfofiegcdaa", sum := "31a63d0713687e56055836bd479f18e0e0240430e658ef504a7b5efdc9e72ca5", func := "freshet/freshetlaw16.PickEdit", spec := "pickEdit", unfollowed := true, recurses := true, apart := false }
def PickEditSaid : Prop := pickEditRow.holds Try.pinned (OpenSpec.ofChange pickEditSpec)

/-- ITS FALSE NEIGHBOUR: 'it returns false'. Refute it at one input. -/
def pickEditWrong : ChangeSpec := { name := "pickEdit", fn := fun _ => fun
  | [d1, d2, d3] => { results := [.lit (.bool false)], args := [d1, d2, d3] }
  | _ => none }
def PickEditWrongFalsely : Prop := pickEditRow.holds Try.pinned (OpenSpec.ofChange pickEditWrong)

/-- 'freshetlaw14.EditApply': WHATEVER THE INPUT: true; the input reads as it did. -/
def editApplySpec : ChangeSpec := { name := "editApply", fn := fun _ => fun
  | [d1, d2] => { results := [.lit (.bool true)], args := [d1, d2] }
  | _ => none }
def editApplyRow : OpenClaim := { program := "ytkjepfofiegcdaa", sum := "31a63d0713687e56055836bd479f18e0e0240430e658ef504a7b5efdc9e72ca5", func := "freshet/freshetlaw14.EditApply", spec := "editApply", inPlace := ["slices.overlaps[freshet/api.Meta]"], unfollowed := true, recurses := true, apart := false }
def EditApplySaid : Prop := editApplyRow.holds Try.pinned (OpenSpec.ofChange editApplySpec)

/-- ITS FALSE NEIGHBOUR: 'it returns false'. Refute it at one input. -/
def editApplyWrong : ChangeSpec := { name := "editApply", fn := fun _ => fun
  | [d1, d2] => { results := [.lit (.bool false)], args := [d1, d2] }
  | _ => none }
def EditApplyWrongFalsely : Prop := editApplyRow.holds Try.pinned (OpenSpec.ofChange editApplyWrong)

/-- 'freshetlaw14.EditEncode': WHATEVER THE INPUT: true; the input reads as it did. -/
def editEncodeSpec : ChangeSpec := { name := "editEncode", fn := fun _ => fun
  | [d] => { results := [.lit (.bool true)], args := [d] }
  | _ => none }
def editEncodeRow : OpenClaim := { program := "ytkjepfofiegcdaa", sum := "31a63d0713687e56055836bd479f18e0e0240430e658ef504a7b5efdc9e72ca5", func := "freshet/freshetlaw14.EditEncode", spec := "editEncode", inPlace := ["slices.overlaps[freshet/api.Meta]"], unfollowed := true, recurses := true, apart := false }
def EditEncodeSaid : Prop := editEncodeRow.holds Try.pinned (OpenSpec.ofChange editEncodeSpec)

/-- ITS FALSE NEIGHBOUR: 'it returns false'. Refute it at one input. -/
def editEncodeWrong : ChangeSpec := { name := "editEncode", fn := fun _ => fun
  | [d] => { results := [.lit (.bool false)], args := [d] }
  | _ => none }
def EditEncodeWrongFalsely : Prop := editEncodeRow.holds Try.pinned (OpenSpec.ofChange editEncodeWrong)

/-- 'freshetlaw14.EditWhole': WHATEVER THE INPUT: true; the input reads as it did. -/
def editWholeSpec : ChangeSpec := { name := "editWhole", fn := fun _ => fun
  | [d] => { results := [.lit (.bool true)], args := [d] }
  | _ => none }
def editWholeRow : OpenClaim := { program := "ytkjepfofiegcdaa", sum := "31a63d0713687e56055836bd479f18e0e0240430e658ef504a7b5efdc9e72ca5", func := "freshet/freshetlaw14.EditWhole", spec := "editWhole", inPlace := ["slices.overlaps[freshet/api.Meta]"], unfollowed := true, recurses := true, apart := false }
def EditWholeSaid : Prop := editWholeRow.holds Try.pinned (OpenSpec.ofChange editWholeSpec)

/-- ITS FALSE NEIGHBOUR: 'it returns false'. Refute it at one input. -/
def editWholeWrong : ChangeSpec := { name := "editWhole", fn := fun _ => fun
  | [d] => { results := [.lit (.bool false)], args := [d] }
  | _ => none }
def EditWholeWrongFalsely : Prop := editWholeRow.holds Try.pinned (OpenSpec.ofChange editWholeWrong)

/-- 'freshetlaw14.EditAgain': WHATEVER THE INPUT: true; the input reads as it did. -/
def editAgainSpec : ChangeSpec := { name := "editAgain", fn := fun _ => fun
  | [d1, d2] => { results := [.lit (.bool true)], args := [d1, d2] }
  | _ => none }
def editAgainRow : OpenClaim := { program := "ytkjepfofiegcdaa", sum := "31a63d0713687e56055836bd479f18e0e0240430e658ef504a7b5efdc9e72ca5", func := "freshet/freshetlaw14.EditAgain", spec := "editAgain", inPlace := ["slices.overlaps[freshet/api.Meta]"], unfollowed := true, recurses := true, apart := false }
def EditAgainSaid : Prop := editAgainRow.holds Try.pinned (OpenSpec.ofChange editAgainSpec)

/-- ITS FALSE NEIGHBOUR: 'it returns false'. Refute it at one input. -/
def editAgainWrong : ChangeSpec := { name := "editAgain", fn := fun _ => fun
  | [d1, d2] => { results := [.lit (.bool false)], args := [d1, d2] }
  | _ => none }
def EditAgainWrongFalsely : Prop := editAgainRow.holds Try.pinned (OpenSpec.ofChange editAgainWrong)

/-- 'freshetlaw14.EditRight': WHATEVER THE INPUT: true; the input reads as it did. -/
def editRightSpec : ChangeSpec := { name := "editRight", fn := fun _ => fun
  | [d1, d2, d3] => { results := [.lit (.bool true)], args := [d1, d2, d3] }
  | _ => none }
def editRightRow : OpenClaim := { program := "ytkjepfofiegcdaa", sum := "31a63d0713687e56055836bd479f18e0e0240430e658ef504a7b5efdc9e72ca5", func := "freshet/freshetlaw14.EditRight", spec := "editRight", inPlace := ["slices.overlaps[freshet/api.Meta]"], unfollowed := true, recurses := true, apart := false }
def EditRightSaid : Prop := editRightRow.holds Try.pinned (OpenSpec.ofChange editRightSpec)

/-- ITS FALSE NEIGHBOUR: 'it returns false'. Refute it at one input. -/
def editRightWrong : ChangeSpec := { name := "editRight", fn := fun _ => fun
  | [d1, d2, d3] => { results := [.lit (.bool false)], args := [d1, d2, d3] }
  | _ => none }
def EditRightWrongFalsely : Prop := editRightRow.holds Try.pinned (OpenSpec.ofChange editRightWrong)

/-- 'freshetlaw14.EditMakes': WHATEVER THE INPUT: true; the input reads as it did. -/
def editMakesSpec : ChangeSpec := { name := "editMakes", fn := fun _ => fun
  | [d1, d2] => { results := [.lit (.bool true)], args := [d1, d2] }
  | _ => none }
def editMakesRow : OpenClaim := { program := "ytkjepfofiegcdaa", sum := "31a63d0713687e56055836bd479f18e0e0240430e658ef504a7b5efdc9e72ca5", func := "freshet/freshetlaw14.EditMakes", spec := "editMakes", inPlace := ["slices.overlaps[freshet/api.Meta]"], unfollowed := true, recurses := true, apart := false }
def EditMakesSaid : Prop := editMakesRow.holds Try.pinned (OpenSpec.ofChange editMakesSpec)

/-- ITS FALSE NEIGHBOUR: 'it returns false'. Refute it at one input. -/
def editMakesWrong : ChangeSpec := { name := "editMakes", fn := fun _ => fun
  | [d1, d2] => { results := [.lit (.bool false)], args := [d1, d2] }
  | _ => none }
def EditMakesWrongFalsely : Prop := editMakesRow.holds Try.pinned (OpenSpec.ofChange editMakesWrong)

/-- 'freshetlaw14.EditDecode': WHATEVER THE INPUT: true; the input reads as it did. -/
def editDecodeSpec : ChangeSpec := { name := "editDecode", fn := fun _ => fun
  | [d] => { results := [.lit (.bool true)], args := [d] }
  | _ => none }
def editDecodeRow : OpenClaim := { program := "ytkjepfofiegcdaa", sum := "31a63d0713687e56055836bd479f18e0e0240430e658ef504a7b5efdc9e72ca5", func := "freshet/freshetlaw14.EditDecode", spec := "editDecode", inPlace := ["slices.overlaps[freshet/api.Meta]"], unfollowed := true, recurses := true, apart := false }
def EditDecodeSaid : Prop := editDecodeRow.holds Try.pinned (OpenSpec.ofChange editDecodeSpec)

/-- ITS FALSE NEIGHBOUR: 'it returns false'. Refute it at one input. -/
def editDecodeWrong : ChangeSpec := { name := "editDecode", fn := fun _ => fun
  | [d] => { results := [.lit (.bool false)], args := [d] }
  | _ => none }
def EditDecodeWrongFalsely : Prop := editDecodeRow.holds Try.pinned (OpenSpec.ofChange editDecodeWrong)

/-- 'freshetlaw14.EditBack': WHATEVER THE INPUT: true; the input reads as it did. -/
def editBackSpec : ChangeSpec := { name := "editBack", fn := fun _ => fun
  | [d1, d2, d3] => { results := [.lit (.bool true)], args := [d1, d2, d3] }
  | _ => none }
def editBackRow : OpenClaim := { program := "ytkjepfofiegcdaa", sum := "31a63d0713687e56055836bd479f18e0e0240430e658ef504a7b5efdc9e72ca5", func := "freshet/freshetlaw14.EditBack", spec := "editBack", inPlace := ["slices.overlaps[freshet/api.Meta]"], unfollowed := true, recurses := true, apart := false }
def EditBackSaid : Prop := editBackRow.holds Try.pinned (OpenSpec.ofChange editBackSpec)

/-- ITS FALSE NEIGHBOUR: 'it returns false'. Refute it at one input. -/
def editBackWrong : ChangeSpec := { name := "editBack", fn := fun _ => fun
  | [d1, d2, d3] => { results := [.lit (.bool false)], args := [d1, d2, d3] }
  | _ => none }
def EditBackWrongFalsely : Prop := editBackRow.holds Try.pinned (OpenSpec.ofChange editBackWrong)

/-- 'freshetlaw16.PickMakes': WHATEVER THE INPUT: true; the input reads as it did. -/
def pickMakesSpec : ChangeSpec := { name := "pickMakes", fn := fun _ => fun
  | [d1, d2, d3] => { results := [.lit (.bool true)], args := [d1, d2, d3] }
  | _ => none }
def pickMakesRow : OpenClaim := { program := "ytkjepfofiegcdaa", sum := "31a63d0713687e56055836bd479f18e0e0240430e658ef504a7b5efdc9e72ca5", func := "freshet/freshetlaw16.PickMakes", spec := "pickMakes", inPlace := ["slices.overlaps[freshet/api.Meta]"], unfollowed := true, recurses := true, apart := false }
def PickMakesSaid : Prop := pickMakesRow.holds Try.pinned (OpenSpec.ofChange pickMakesSpec)

/-- ITS FALSE NEIGHBOUR: 'it returns false'. Refute it at one input. -/
def pickMakesWrong : ChangeSpec := { name := "pickMakes", fn := fun _ => fun
  | [d1, d2, d3] => { results := [.lit (.bool false)], args := [d1, d2, d3] }
  | _ => none }
def PickMakesWrongFalsely : Prop := pickMakesRow.holds Try.pinned (OpenSpec.ofChange pickMakesWrong)

/-- 'freshetlaw16.PickFewer': WHATEVER THE INPUT: true; the input reads as it did. -/
def pickFewerSpec : ChangeSpec := { name := "pickFewer", fn := fun _ => fun
  | [d1, d2] => { results := [.lit (.bool true)], args := [d1, d2] }
  | _ => none }
def pickFewerRow : OpenClaim := { program := "ytkjepfofiegcdaa", sum := "31a63d0713687e56055836bd479f18e0e0240430e658ef504a7b5efdc9e72ca5", func := "freshet/freshetlaw16.PickFewer", spec := "pickFewer", inPlace := ["slices.overlaps[freshet/api.Meta]"], unfollowed := true, recurses := true, apart := false }
def PickFewerSaid : Prop := pickFewerRow.holds Try.pinned (OpenSpec.ofChange pickFewerSpec)

/-- ITS FALSE NEIGHBOUR: 'it returns false'. Refute it at one input. -/
def pickFewerWrong : ChangeSpec := { name := "pickFewer", fn := fun _ => fun
  | [d1, d2] => { results := [.lit (.bool false)], args := [d1, d2] }
  | _ => none }
def PickFewerWrongFalsely : Prop := pickFewerRow.holds Try.pinned (OpenSpec.ofChange pickFewerWrong)

/-- 'freshetlaw19.MetaEncode': WHATEVER THE INPUT: true; the input reads as it did. -/
def metaEncodeSpec : ChangeSpec := { name := "metaEncode", fn := fun _ => fun
  | [d] => { results := [.lit (.bool true)], args := [d] }
  | _ => none }
def metaEncodeRow : OpenClaim := { program := "ytkjepfofiegcdaa", sum := "31a63d0713687e56055836bd479f18e0e0240430e658ef504a7b5efdc9e72ca5", func := "freshet/freshetlaw19.MetaEncode", spec := "metaEncode", inPlace := ["slices.overlaps[freshet/api.Meta]"], unfollowed := true, recurses := true, apart := false }
def MetaEncodeSaid : Prop := metaEncodeRow.holds Try.pinned (OpenSpec.ofChange metaEncodeSpec)

/-- ITS FALSE NEIGHBOUR: 'it returns false'. Refute it at one input. -/
def metaEncodeWrong : ChangeSpec := { name := "metaEncode", fn := fun _ => fun
  | [d] => { results := [.lit (.bool false)], args := [d] }
  | _ => none }
def MetaEncodeWrongFalsely : Prop := metaEncodeRow.holds Try.pinned (OpenSpec.ofChange metaEncodeWrong)

/-- 'freshetlaw19.MetaDecode': WHATEVER THE INPUT: true; the input reads as it did. -/
def metaDecodeSpec : ChangeSpec := { name := "metaDecode", fn := fun _ => fun
  | [d] => { results := [.lit (.bool true)], args := [d] }
  | _ => none }
def metaDecodeRow : OpenClaim := { program := "ytkjepfofiegcdaa", sum := "31a63d0713687e56055836bd479f18e0e0240430e658ef504a7b5efdc9e72ca5", func := "freshet/freshetlaw19.MetaDecode", spec := "metaDecode", inPlace := ["slices.overlaps[freshet/api.Meta]"], unfollowed := true, recurses := true, apart := false }
def MetaDecodeSaid : Prop := metaDecodeRow.holds Try.pinned (OpenSpec.ofChange metaDecodeSpec)

/-- ITS FALSE NEIGHBOUR: 'it returns false'. Refute it at one input. -/
def metaDecodeWrong : ChangeSpec := { name := "metaDecode", fn := fun _ => fun
  | [d] => { results := [.lit (.bool false)], args := [d] }
  | _ => none }
def MetaDecodeWrongFalsely : Prop := metaDecodeRow.holds Try.pinned (OpenSpec.ofChange metaDecodeWrong)

/-- 'freshetlaw19.MetaBack': WHATEVER THE INPUT: true; the input reads as it did. -/
def metaBackSpec : ChangeSpec := { name := "metaBack", fn := fun _ => fun
  | [d1, d2, d3] => { results := [.lit (.bool true)], args := [d1, d2, d3] }
  | _ => none }
def metaBackRow : OpenClaim := { program := "ytkjepfofiegcdaa", sum := "31a63d0713687e56055836bd479f18e0e0240430e658ef504a7b5efdc9e72ca5", func := "freshet/freshetlaw19.MetaBack", spec := "metaBack", inPlace := ["slices.overlaps[freshet/api.Meta]"], unfollowed := true, recurses := true, apart := false }
def MetaBackSaid : Prop := metaBackRow.holds Try.pinned (OpenSpec.ofChange metaBackSpec)

/-- ITS FALSE NEIGHBOUR: 'it returns false'. Refute it at one input. -/
def metaBackWrong : ChangeSpec := { name := "metaBack", fn := fun _ => fun
  | [d1, d2, d3] => { results := [.lit (.bool false)], args := [d1, d2, d3] }
  | _ => none }
def MetaBackWrongFalsely : Prop := metaBackRow.holds Try.pinned (OpenSpec.ofChange metaBackWrong)

/- THE SECOND FORM. 'bulk': how many values and letters a reading holds, each counted each time it is reached (what is shared counts as often as it is met; a slice's spare places count too). A statement '..UptoSaid' is the law's where the arguments, and the package variables that the reading takes, are together of bulk at most 1048576: NARROWER than '..Said'. Prove '..Said' where nothing that the law and all that it calls make is longer than what came in: it says more and counts as full. Else prove '..UptoSaid'. A law counts once. -/
mutual
def uptoBulk {H : Type} : DataW H → Nat
  | .lit (.string bytes) => bytes.length + 1
  | .lit _ => 1
  | .nil => 1
  | .ptr d => uptoBulk d + 1
  | .slice elems spare => uptoBulkAll elems + uptoBulkAll spare + 1
  | .agg parts => uptoBulkAll parts + 1
  | .iface _ d => uptoBulk d + 1
  | .map entries => uptoBulkEntries entries + 1
  | .held _ => 1
def uptoBulkAll {H : Type} : List (DataW H) → Nat
  | [] => 0
  | d :: r => uptoBulk d + uptoBulkAll r
def uptoBulkEntries {H : Type} : List (Lit × DataW H) → Nat
  | [] => 0
  | x :: r => uptoBulkEntry x + uptoBulkEntries r
def uptoBulkEntry {H : Type} : Lit × DataW H → Nat
  | (.string bytes, d) => bytes.length + uptoBulk d + 1
  | (_, d) => uptoBulk d + 1
 end
def uptoSmall : (H : Type) → List (DataW H) → Bool := fun _ ds => decide (uptoBulkAll ds ≤ 1048576)
def OpenSpec.upto (s : _root_.Go.ChangeSpec) : _root_.Go.OpenSpec := { _root_.Go.OpenSpec.ofChange s with cond := some uptoSmall }

/-- 'freshetlaw19.MetaBurst', WHERE WHAT IT READS IS OF BULK AT MOST 1048576: true; the input reads as it did. -/
def metaBurstUptoRow : OpenClaim := { program := "ytkjepfofiegcdaa", sum := "31a63d0713687e56055836bd479f18e0e0240430e658ef504a7b5efdc9e72ca5", func := "freshet/freshetlaw19.MetaBurst", spec := "metaBurst", inPlace := ["slices.overlaps[freshet/api.Meta]"], unfollowed := true, recurses := true, apart := false, narrowed := true }
def MetaBurstUptoSaid : Prop := metaBurstUptoRow.holds Try.pinned (OpenSpec.upto metaBurstSpec)

/-- 'freshetlaw19.MetaPoint', WHERE WHAT IT READS IS OF BULK AT MOST 1048576: true; the input reads as it did. -/
def metaPointUptoRow : OpenClaim := { program := "ytkjepfofiegcdaa", sum := "31a63d0713687e56055836bd479f18e0e0240430e658ef504a7b5efdc9e72ca5", func := "freshet/freshetlaw19.MetaPoint", spec := "metaPoint", inPlace := ["slices.overlaps[freshet/api.Meta]"], unfollowed := true, recurses := true, apart := false, narrowed := true }
def MetaPointUptoSaid : Prop := metaPointUptoRow.holds Try.pinned (OpenSpec.upto metaPointSpec)

/-- 'freshetlaw16.PickDue', WHERE WHAT IT READS IS OF BULK AT MOST 1048576: true; the input reads as it did. -/
def pickDueUptoRow : OpenClaim := { program := "ytkjepfofiegcdaa", sum := "31a63d0713687e56055836bd479f18e0e0240430e658ef504a7b5efdc9e72ca5", func := "freshet/freshetlaw16.PickDue", spec := "pickDue", unfollowed := true, recurses := true, apart := false, narrowed := true }
def PickDueUptoSaid : Prop := pickDueUptoRow.holds Try.pinned (OpenSpec.upto pickDueSpec)

/-- 'freshetlaw16.PickOverlap', WHERE WHAT IT READS IS OF BULK AT MOST 1048576: true; the input reads as it did. -/
def pickOverlapUptoRow : OpenClaim := { program := "ytkjepfofiegcdaa", sum := "31a63d0713687e56055836bd479f18e0e0240430e658ef504a7b5efdc9e72ca5", func := "freshet/freshetlaw16.PickOverlap", spec := "pickOverlap", unfollowed := true, recurses := true, apart := false, narrowed := true }
def PickOverlapUptoSaid : Prop := pickOverlapUptoRow.holds Try.pinned (OpenSpec.upto pickOverlapSpec)

/-- 'freshetlaw16.PickBottom', WHERE WHAT IT READS IS OF BULK AT MOST 1048576: true; the input reads as it did. -/
def pickBottomUptoRow : OpenClaim := { program := "ytkjepfofiegcdaa", sum := "31a63d0713687e56055836bd479f18e0e0240430e658ef504a7b5efdc9e72ca5", func := "freshet/freshetlaw16.PickBottom", spec := "pickBottom", unfollowed := true, recurses := true, apart := false, narrowed := true }
def PickBottomUptoSaid : Prop := pickBottomUptoRow.holds Try.pinned (OpenSpec.upto pickBottomSpec)

/-- 'freshetlaw16.PickMeets', WHERE WHAT IT READS IS OF BULK AT MOST 1048576: true; the input reads as it did. -/
def pickMeetsUptoRow : OpenClaim := { program := "ytkjepfofiegcdaa", sum := "31a63d0713687e56055836bd479f18e0e0240430e658ef504a7b5efdc9e72ca5", func := "freshet/freshetlaw16.PickMeets", spec := "pickMeets", unfollowed := true, recurses := true, apart := false, narrowed := true }
def PickMeetsUptoSaid : Prop := pickMeetsUptoRow.holds Try.pinned (OpenSpec.upto pickMeetsSpec)

/-- 'freshetlaw16.PickBelow', WHERE WHAT IT READS IS OF BULK AT MOST 1048576: true; the input reads as it did. -/
def pickBelowUptoRow : OpenClaim := { program := "ytkjepfofiegcdaa", sum := "31a63d0713687e56055836bd479f18e0e0240430e658ef504a7b5efdc9e72ca5", func := "freshet/freshetlaw16.PickBelow", spec := "pickBelow", unfollowed := true, recurses := true, apart := false, narrowed := true }
def PickBelowUptoSaid : Prop := pickBelowUptoRow.holds Try.pinned (OpenSpec.upto pickBelowSpec)

/-- 'freshetlaw16.PickOver', WHERE WHAT IT READS IS OF BULK AT MOST 1048576: true; the input reads as it did. -/
def pickOverUptoRow : OpenClaim := { program := "ytkjepfofiegcdaa", sum := "31a63d0713687e56055836bd479f18e0e0240430e658ef504a7b5efdc9e72ca5", func := "freshet/freshetlaw16.PickOver", spec := "pickOver", unfollowed := true, recurses := true, apart := false, narrowed := true }
def PickOverUptoSaid : Prop := pickOverUptoRow.holds Try.pinned (OpenSpec.upto pickOverSpec)

/-- 'freshetlaw16.PickEdit', WHERE WHAT IT READS IS OF BULK AT MOST 1048576: true; the input reads as it did. -/
def pickEditUptoRow : OpenClaim := { program := "ytkjepfofiegcdaa", sum := "31a63d0713687e56055836bd479f18e0e0240430e658ef504a7b5efdc9e72ca5", func := "freshet/freshetlaw16.PickEdit", spec := "pickEdit", unfollowed := true, recurses := true, apart := false, narrowed := true }
def PickEditUptoSaid : Prop := pickEditUptoRow.holds Try.pinned (OpenSpec.upto pickEditSpec)

/-- 'freshetlaw14.EditApply', WHERE WHAT IT READS IS OF BULK AT MOST 1048576: true; the input reads as it did. -/
def editApplyUptoRow : OpenClaim := { program := "ytkjepfofiegcdaa", sum := "31a63d0713687e56055836bd479f18e0e0240430e658ef504a7b5efdc9e72ca5", func := "freshet/freshetlaw14.EditApply", spec := "editApply", inPlace := ["slices.overlaps[freshet/api.Meta]"], unfollowed := true, recurses := true, apart := false, narrowed := true }
def EditApplyUptoSaid : Prop := editApplyUptoRow.holds Try.pinned (OpenSpec.upto editApplySpec)

/-- 'freshetlaw14.EditEncode', WHERE WHAT IT READS IS OF BULK AT MOST 1048576: true; the input reads as it did. -/
def editEncodeUptoRow : OpenClaim := { program := "ytkjepfofiegcdaa", sum := "31a63d0713687e56055836bd479f18e0e0240430e658ef504a7b5efdc9e72ca5", func := "freshet/freshetlaw14.EditEncode", spec := "editEncode", inPlace := ["slices.overlaps[freshet/api.Meta]"], unfollowed := true, recurses := true, apart := false, narrowed := true }
def EditEncodeUptoSaid : Prop := editEncodeUptoRow.holds Try.pinned (OpenSpec.upto editEncodeSpec)

/-- 'freshetlaw14.EditWhole', WHERE WHAT IT READS IS OF BULK AT MOST 1048576: true; the input reads as it did. -/
def editWholeUptoRow : OpenClaim := { program := "ytkjepfofiegcdaa", sum := "31a63d0713687e56055836bd479f18e0e0240430e658ef504a7b5efdc9e72ca5", func := "freshet/freshetlaw14.EditWhole", spec := "editWhole", inPlace := ["slices.overlaps[freshet/api.Meta]"], unfollowed := true, recurses := true, apart := false, narrowed := true }
def EditWholeUptoSaid : Prop := editWholeUptoRow.holds Try.pinned (OpenSpec.upto editWholeSpec)

/-- 'freshetlaw14.EditAgain', WHERE WHAT IT READS IS OF BULK AT MOST 1048576: true; the input reads as it did. -/
def editAgainUptoRow : OpenClaim := { program := "ytkjepfofiegcdaa", sum := "31a63d0713687e56055836bd479f18e0e0240430e658ef504a7b5efdc9e72ca5", func := "freshet/freshetlaw14.EditAgain", spec := "editAgain", inPlace := ["slices.overlaps[freshet/api.Meta]"], unfollowed := true, recurses := true, apart := false, narrowed := true }
def EditAgainUptoSaid : Prop := editAgainUptoRow.holds Try.pinned (OpenSpec.upto editAgainSpec)

/-- 'freshetlaw14.EditRight', WHERE WHAT IT READS IS OF BULK AT MOST 1048576: true; the input reads as it did. -/
def editRightUptoRow : OpenClaim := { program := "ytkjepfofiegcdaa", sum := "31a63d0713687e56055836bd479f18e0e0240430e658ef504a7b5efdc9e72ca5", func := "freshet/freshetlaw14.EditRight", spec := "editRight", inPlace := ["slices.overlaps[freshet/api.Meta]"], unfollowed := true, recurses := true, apart := false, narrowed := true }
def EditRightUptoSaid : Prop := editRightUptoRow.holds Try.pinned (OpenSpec.upto editRightSpec)

/-- 'freshetlaw14.EditMakes', WHERE WHAT IT READS IS OF BULK AT MOST 1048576: true; the input reads as it did. -/
def editMakesUptoRow : OpenClaim := { program := "ytkjepfofiegcdaa", sum := "31a63d0713687e56055836bd479f18e0e0240430e658ef504a7b5efdc9e72ca5", func := "freshet/freshetlaw14.EditMakes", spec := "editMakes", inPlace := ["slices.overlaps[freshet/api.Meta]"], unfollowed := true, recurses := true, apart := false, narrowed := true }
def EditMakesUptoSaid : Prop := editMakesUptoRow.holds Try.pinned (OpenSpec.upto editMakesSpec)

/-- 'freshetlaw14.EditDecode', WHERE WHAT IT READS IS OF BULK AT MOST 1048576: true; the input reads as it did. -/
def editDecodeUptoRow : OpenClaim := { program := "ytkjepfofiegcdaa", sum := "31a63d0713687e56055836bd479f18e0e0240430e658ef504a7b5efdc9e72ca5", func := "freshet/freshetlaw14.EditDecode", spec := "editDecode", inPlace := ["slices.overlaps[freshet/api.Meta]"], unfollowed := true, recurses := true, apart := false, narrowed := true }
def EditDecodeUptoSaid : Prop := editDecodeUptoRow.holds Try.pinned (OpenSpec.upto editDecodeSpec)

/-- 'freshetlaw14.EditBack', WHERE WHAT IT READS IS OF BULK AT MOST 1048576: true; the input reads as it did. -/
def editBackUptoRow : OpenClaim := { program := "ytkjepfofiegcdaa", sum := "31a63d0713687e56055836bd479f18e0e0240430e658ef504a7b5efdc9e72ca5", func := "freshet/freshetlaw14.EditBack", spec := "editBack", inPlace := ["slices.overlaps[freshet/api.Meta]"], unfollowed := true, recurses := true, apart := false, narrowed := true }
def EditBackUptoSaid : Prop := editBackUptoRow.holds Try.pinned (OpenSpec.upto editBackSpec)

/-- 'freshetlaw16.PickMakes', WHERE WHAT IT READS IS OF BULK AT MOST 1048576: true; the input reads as it did. -/
def pickMakesUptoRow : OpenClaim := { program := "ytkjepfofiegcdaa", sum := "31a63d0713687e56055836bd479f18e0e0240430e658ef504a7b5efdc9e72ca5", func := "freshet/freshetlaw16.PickMakes", spec := "pickMakes", inPlace := ["slices.overlaps[freshet/api.Meta]"], unfollowed := true, recurses := true, apart := false, narrowed := true }
def PickMakesUptoSaid : Prop := pickMakesUptoRow.holds Try.pinned (OpenSpec.upto pickMakesSpec)

/-- 'freshetlaw16.PickFewer', WHERE WHAT IT READS IS OF BULK AT MOST 1048576: true; the input reads as it did. -/
def pickFewerUptoRow : OpenClaim := { program := "ytkjepfofiegcdaa", sum := "31a63d0713687e56055836bd479f18e0e0240430e658ef504a7b5efdc9e72ca5", func := "freshet/freshetlaw16.PickFewer", spec := "pickFewer", inPlace := ["slices.overlaps[freshet/api.Meta]"], unfollowed := true, recurses := true, apart := false, narrowed := true }
def PickFewerUptoSaid : Prop := pickFewerUptoRow.holds Try.pinned (OpenSpec.upto pickFewerSpec)

/-- 'freshetlaw19.MetaEncode', WHERE WHAT IT READS IS OF BULK AT MOST 1048576: true; the input reads as it did. -/
def metaEncodeUptoRow : OpenClaim := { program := "ytkjepfofiegcdaa", sum := "31a63d0713687e56055836bd479f18e0e0240430e658ef504a7b5efdc9e72ca5", func := "freshet/freshetlaw19.MetaEncode", spec := "metaEncode", inPlace := ["slices.overlaps[freshet/api.Meta]"], unfollowed := true, recurses := true, apart := false, narrowed := true }
def MetaEncodeUptoSaid : Prop := metaEncodeUptoRow.holds Try.pinned (OpenSpec.upto metaEncodeSpec)

/-- 'freshetlaw19.MetaDecode', WHERE WHAT IT READS IS OF BULK AT MOST 1048576: true; the input reads as it did. -/
def metaDecodeUptoRow : OpenClaim := { program := "ytkjepfofiegcdaa", sum := "31a63d0713687e56055836bd479f18e0e0240430e658ef504a7b5efdc9e72ca5", func := "freshet/freshetlaw19.MetaDecode", spec := "metaDecode", inPlace := ["slices.overlaps[freshet/api.Meta]"], unfollowed := true, recurses := true, apart := false, narrowed := true }
def MetaDecodeUptoSaid : Prop := metaDecodeUptoRow.holds Try.pinned (OpenSpec.upto metaDecodeSpec)

/-- 'freshetlaw19.MetaBack', WHERE WHAT IT READS IS OF BULK AT MOST 1048576: true; the input reads as it did. -/
def metaBackUptoRow : OpenClaim := { program := "ytkjepfofiegcdaa", sum := "31a63d0713687e56055836bd479f18e0e0240430e658ef504a7b5efdc9e72ca5", func := "freshet/freshetlaw19.MetaBack", spec := "metaBack", inPlace := ["slices.overlaps[freshet/api.Meta]"], unfollowed := true, recurses := true, apart := false, narrowed := true }
def MetaBackUptoSaid : Prop := metaBackUptoRow.holds Try.pinned (OpenSpec.upto metaBackSpec)

end Rows
end Go.Proofs.Ytkjepfofiegcdaa
