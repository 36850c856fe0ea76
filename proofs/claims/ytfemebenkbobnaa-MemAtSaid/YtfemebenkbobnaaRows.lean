/-
  No cell of these rows narrows 'for every input' (looked for: loops, veiled, ifaces, maps, wideKeys, modest, calm, conditions, laid).
  DERIVED. THE GIVEN ROWS OF THIS SEAT. 17 by the template 'for every input the law returns true; each argument reads behind the call as it read before'; 0 by the template 'total and deterministic' (their statements: YtfemebenkbobnaaTotals.lean).
  GIVEN WITH THE SEED: the statements are not yours to turn. If you find one false, say at which input.
  Laid BY PROGRAM, IN A SANDBOX (cutbox-rows.mjs): the forced cells as the released guide's own fill.sh prints them over the translation e65e87c46b99d7f7… (all of the seat's roots in one cut). By AI agents, Wed Nov 11 2026. No macro, syntax, notation, axiom, sorry.
-/
import Derived.Test.YtfemebenkbobnaaChecked
import GoSem.Claim
import GoSem.ClaimJoined
import GoSem.ClaimMapViews
import Derived.JoinedTies
import Derived.KernelRfl
namespace Go.Proofs.Ytfemebenkbobnaa
/- THE CELL 'sum', in the pinned program and in every row, IS THE sha256 OF THE DUMP (.gsa) THAT YtfemebenkbobnaaProg.lean LOADS. Nothing in Lean hashes anything: it is a label: what it is worth is what the hold of that sum in a sandbox is worth. -/
noncomputable def Try.pinned : Pinned := { name := "ytfemebenkbobnaa", sum := "e65e87c46b99d7f7f8e3dac311d552509a292fc85615a7a5b4c5d7670bd8ece7", checked := Try.checked }
namespace Rows
def none {H : Type} : Left H := { results := [], args := [] }

/-- 'freshetlaw08.SkipSteps': WHATEVER THE INPUT: true; the input reads as it did. -/
def skipStepsSpec : ChangeSpec := { name := "skipSteps", fn := fun _ => fun
  | [d1, d2, d3, d4] => { results := [.lit (.bool true)], args := [d1, d2, d3, d4] }
  | _ => none }
def skipStepsRow : OpenClaim := { program := "ytfemebenkbobnaa", sum := "e65e87c46b99d7f7f8e3dac311d552509a292fc85615a7a5b4c5d7670bd8ece7", func := "freshet/freshetlaw08.SkipSteps", spec := "skipSteps", unfollowed := true, recurses := true, apart := false }
def SkipStepsSaid : Prop := skipStepsRow.holds Try.pinned (OpenSpec.ofChange skipStepsSpec)

/-- ITS FALSE NEIGHBOUR: 'it returns false'. Refute it at one input. -/
def skipStepsWrong : ChangeSpec := { name := "skipSteps", fn := fun _ => fun
  | [d1, d2, d3, d4] => { results := [.lit (.bool false)], args := [d1, d2, d3, d4] }
  | _ => none }
def SkipStepsWrongFalsely : Prop := skipStepsRow.holds Try.pinned (OpenSpec.ofChange skipStepsWrong)

/-- 'freshetlaw08.SkipPlays': WHATEVER THE INPUT: true; the input reads as it did. -/
def skipPlaysSpec : ChangeSpec := { name := "skipPlays", fn := fun _ => fun
  | [d] => { results := [.lit (.bool true)], args := [d] }
  | _ => none }
def skipPlaysRow : OpenClaim := { program := "ytfemebenkbobnaa", sum := "e65e87c46b99d7f7f8e3dac311d552509a292fc85615a7a5b4c5d7670bd8ece7", func := "freshet/freshetlaw08.SkipPlays", spec := "skipPlays", unfollowed := true, recurses := true, apart := false }
def SkipPlaysSaid : Prop := skipPlaysRow.holds Try.pinned (OpenSpec.ofChange skipPlaysSpec)

/-- ITS FALSE NEIGHBOUR: 'it returns false'. Refute it at one input. -/
def skipPlaysWrong : ChangeSpec := { name := "skipPlays", fn := fun _ => fun
  | [d] => { results := [.lit (.bool false)], args := [d] }
  | _ => none }
def SkipPlaysWrongFalsely : Prop := skipPlaysRow.holds Try.pinned (OpenSpec.ofChange skipPlaysWrong)

/-- 'freshetlaw08.SkipNone': WHATEVER THE INPUT: true; the input reads as it did. -/
def skipNoneSpec : ChangeSpec := { name := "skipNone", fn := fun _ => fun
  | [d1, d2] => { results := [.lit (.bool true)], args := [d1, d2] }
  | _ => none }
def skipNoneRow : OpenClaim := { program := "ytfemebenkbobnaa", sum := "e65e87c46b99d7f7f8e3dac311d552509a292fc85615a7a5b4c5d7670bd8ece7", func := "freshet/freshetlaw08.SkipNone", spec := "skipNone", unfollowed := true, recurses := true, apart := false }
def SkipNoneSaid : Prop := skipNoneRow.holds Try.pinned (OpenSpec.ofChange skipNoneSpec)

/-- ITS FALSE NEIGHBOUR: 'it returns false'. Refute it at one input. -/
def skipNoneWrong : ChangeSpec := { name := "skipNone", fn := fun _ => fun
  | [d1, d2] => { results := [.lit (.bool false)], args := [d1, d2] }
  | _ => none }
def SkipNoneWrongFalsely : Prop := skipNoneRow.holds Try.pinned (OpenSpec.ofChange skipNoneWrong)

/-- 'freshetlaw08.SkipAny': WHATEVER THE INPUT: true; the input reads as it did. -/
def skipAnySpec : ChangeSpec := { name := "skipAny", fn := fun _ => fun
  | [d1, d2, d3] => { results := [.lit (.bool true)], args := [d1, d2, d3] }
  | _ => none }
def skipAnyRow : OpenClaim := { program := "ytfemebenkbobnaa", sum := "e65e87c46b99d7f7f8e3dac311d552509a292fc85615a7a5b4c5d7670bd8ece7", func := "freshet/freshetlaw08.SkipAny", spec := "skipAny", unfollowed := true, recurses := true, apart := false }
def SkipAnySaid : Prop := skipAnyRow.holds Try.pinned (OpenSpec.ofChange skipAnySpec)

/-- ITS FALSE NEIGHBOUR: 'it returns false'. Refute it at one input. -/
def skipAnyWrong : ChangeSpec := { name := "skipAny", fn := fun _ => fun
  | [d1, d2, d3] => { results := [.lit (.bool false)], args := [d1, d2, d3] }
  | _ => none }
def SkipAnyWrongFalsely : Prop := skipAnyRow.holds Try.pinned (OpenSpec.ofChange skipAnyWrong)

/-- 'freshetlaw08.SkipFrom': WHATEVER THE INPUT: true; the input reads as it did. -/
def skipFromSpec : ChangeSpec := { name := "skipFrom", fn := fun _ => fun
  | [d1, d2, d3, d4] => { results := [.lit (.bool true)], args := [d1, d2, d3, d4] }
  | _ => none }
def skipFromRow : OpenClaim := { program := "ytfemebenkbobnaa", sum := "e65e87c46b99d7f7f8e3dac311d552509a292fc85615a7a5b4c5d7670bd8ece7", func := "freshet/freshetlaw08.SkipFrom", spec := "skipFrom", unfollowed := true, recurses := true, apart := false }
def SkipFromSaid : Prop := skipFromRow.holds Try.pinned (OpenSpec.ofChange skipFromSpec)

/-- ITS FALSE NEIGHBOUR: 'it returns false'. Refute it at one input. -/
def skipFromWrong : ChangeSpec := { name := "skipFrom", fn := fun _ => fun
  | [d1, d2, d3, d4] => { results := [.lit (.bool false)], args := [d1, d2, d3, d4] }
  | _ => none }
def SkipFromWrongFalsely : Prop := skipFromRow.holds Try.pinned (OpenSpec.ofChange skipFromWrong)

/-- 'freshetlaw06.BatchEncode': WHATEVER THE INPUT: true; the input reads as it did. -/
def batchEncodeSpec : ChangeSpec := { name := "batchEncode", fn := fun _ => fun
  | [d] => { results := [.lit (.bool true)], args := [d] }
  | _ => none }
def batchEncodeRow : OpenClaim := { program := "ytfemebenkbobnaa", sum := "e65e87c46b99d7f7f8e3dac311d552509a292fc85615a7a5b4c5d7670bd8ece7", func := "freshet/freshetlaw06.BatchEncode", spec := "batchEncode", unfollowed := true, recurses := true, apart := false }
def BatchEncodeSaid : Prop := batchEncodeRow.holds Try.pinned (OpenSpec.ofChange batchEncodeSpec)

/-- ITS FALSE NEIGHBOUR: 'it returns false'. Refute it at one input. -/
def batchEncodeWrong : ChangeSpec := { name := "batchEncode", fn := fun _ => fun
  | [d] => { results := [.lit (.bool false)], args := [d] }
  | _ => none }
def BatchEncodeWrongFalsely : Prop := batchEncodeRow.holds Try.pinned (OpenSpec.ofChange batchEncodeWrong)

/-- 'freshetlaw06.BatchDecode': WHATEVER THE INPUT: true; the input reads as it did. -/
def batchDecodeSpec : ChangeSpec := { name := "batchDecode", fn := fun _ => fun
  | [d] => { results := [.lit (.bool true)], args := [d] }
  | _ => none }
def batchDecodeRow : OpenClaim := { program := "ytfemebenkbobnaa", sum := "e65e87c46b99d7f7f8e3dac311d552509a292fc85615a7a5b4c5d7670bd8ece7", func := "freshet/freshetlaw06.BatchDecode", spec := "batchDecode", unfollowed := true, recurses := true, apart := false }
def BatchDecodeSaid : Prop := batchDecodeRow.holds Try.pinned (OpenSpec.ofChange batchDecodeSpec)

/-- ITS FALSE NEIGHBOUR: 'it returns false'. Refute it at one input. -/
def batchDecodeWrong : ChangeSpec := { name := "batchDecode", fn := fun _ => fun
  | [d] => { results := [.lit (.bool false)], args := [d] }
  | _ => none }
def BatchDecodeWrongFalsely : Prop := batchDecodeRow.holds Try.pinned (OpenSpec.ofChange batchDecodeWrong)

/-- 'freshetlaw06.BatchOnly': WHATEVER THE INPUT: true; the input reads as it did. -/
def batchOnlySpec : ChangeSpec := { name := "batchOnly", fn := fun _ => fun
  | [d] => { results := [.lit (.bool true)], args := [d] }
  | _ => none }
def batchOnlyRow : OpenClaim := { program := "ytfemebenkbobnaa", sum := "e65e87c46b99d7f7f8e3dac311d552509a292fc85615a7a5b4c5d7670bd8ece7", func := "freshet/freshetlaw06.BatchOnly", spec := "batchOnly", unfollowed := true, recurses := true, apart := false }
def BatchOnlySaid : Prop := batchOnlyRow.holds Try.pinned (OpenSpec.ofChange batchOnlySpec)

/-- ITS FALSE NEIGHBOUR: 'it returns false'. Refute it at one input. -/
def batchOnlyWrong : ChangeSpec := { name := "batchOnly", fn := fun _ => fun
  | [d] => { results := [.lit (.bool false)], args := [d] }
  | _ => none }
def BatchOnlyWrongFalsely : Prop := batchOnlyRow.holds Try.pinned (OpenSpec.ofChange batchOnlyWrong)

/-- 'freshetlaw06.BatchNumbers': WHATEVER THE INPUT: true; the input reads as it did. -/
def batchNumbersSpec : ChangeSpec := { name := "batchNumbers", fn := fun _ => fun
  | [d] => { results := [.lit (.bool true)], args := [d] }
  | _ => none }
def batchNumbersRow : OpenClaim := { program := "ytfemebenkbobnaa", sum := "e65e87c46b99d7f7f8e3dac311d552509a292fc85615a7a5b4c5d7670bd8ece7", func := "freshet/freshetlaw06.BatchNumbers", spec := "batchNumbers", unfollowed := true, recurses := true, apart := false }
def BatchNumbersSaid : Prop := batchNumbersRow.holds Try.pinned (OpenSpec.ofChange batchNumbersSpec)

/-- ITS FALSE NEIGHBOUR: 'it returns false'. Refute it at one input. -/
def batchNumbersWrong : ChangeSpec := { name := "batchNumbers", fn := fun _ => fun
  | [d] => { results := [.lit (.bool false)], args := [d] }
  | _ => none }
def BatchNumbersWrongFalsely : Prop := batchNumbersRow.holds Try.pinned (OpenSpec.ofChange batchNumbersWrong)

/-- 'freshetlaw06.BatchCut': WHATEVER THE INPUT: true; the input reads as it did. -/
def batchCutSpec : ChangeSpec := { name := "batchCut", fn := fun _ => fun
  | [d1, d2] => { results := [.lit (.bool true)], args := [d1, d2] }
  | _ => none }
def batchCutRow : OpenClaim := { program := "ytfemebenkbobnaa", sum := "e65e87c46b99d7f7f8e3dac311d552509a292fc85615a7a5b4c5d7670bd8ece7", func := "freshet/freshetlaw06.BatchCut", spec := "batchCut", unfollowed := true, recurses := true, apart := false }
def BatchCutSaid : Prop := batchCutRow.holds Try.pinned (OpenSpec.ofChange batchCutSpec)

/-- ITS FALSE NEIGHBOUR: 'it returns false'. Refute it at one input. -/
def batchCutWrong : ChangeSpec := { name := "batchCut", fn := fun _ => fun
  | [d1, d2] => { results := [.lit (.bool false)], args := [d1, d2] }
  | _ => none }
def BatchCutWrongFalsely : Prop := batchCutRow.holds Try.pinned (OpenSpec.ofChange batchCutWrong)

/-- 'freshetlaw06.BatchBack': WHATEVER THE INPUT: true; the input reads as it did. -/
def batchBackSpec : ChangeSpec := { name := "batchBack", fn := fun _ => fun
  | [d1, d2] => { results := [.lit (.bool true)], args := [d1, d2] }
  | _ => none }
def batchBackRow : OpenClaim := { program := "ytfemebenkbobnaa", sum := "e65e87c46b99d7f7f8e3dac311d552509a292fc85615a7a5b4c5d7670bd8ece7", func := "freshet/freshetlaw06.BatchBack", spec := "batchBack", unfollowed := true, recurses := true, apart := false }
def BatchBackSaid : Prop := batchBackRow.holds Try.pinned (OpenSpec.ofChange batchBackSpec)

/-- ITS FALSE NEIGHBOUR: 'it returns false'. Refute it at one input. -/
def batchBackWrong : ChangeSpec := { name := "batchBack", fn := fun _ => fun
  | [d1, d2] => { results := [.lit (.bool false)], args := [d1, d2] }
  | _ => none }
def BatchBackWrongFalsely : Prop := batchBackRow.holds Try.pinned (OpenSpec.ofChange batchBackWrong)

/-- 'freshetlaw09.MemAt': WHATEVER THE INPUT: true; the input reads as it did. -/
def memAtSpec : ChangeSpec := { name := "memAt", fn := fun _ => fun
  | [d1, d2, d3] => { results := [.lit (.bool true)], args := [d1, d2, d3] }
  | _ => none }
def memAtRow : OpenClaim := { program := "ytfemebenkbobnaa", sum := "e65e87c46b99d7f7f8e3dac311d552509a292fc85615a7a5b4c5d7670bd8ece7", func := "freshet/freshetlaw09.MemAt", spec := "memAt", unfollowed := true, recurses := true, apart := false }
def MemAtSaid : Prop := memAtRow.holds Try.pinned (OpenSpec.ofChange memAtSpec)

/-- ITS FALSE NEIGHBOUR: 'it returns false'. Refute it at one input. -/
def memAtWrong : ChangeSpec := { name := "memAt", fn := fun _ => fun
  | [d1, d2, d3] => { results := [.lit (.bool false)], args := [d1, d2, d3] }
  | _ => none }
def MemAtWrongFalsely : Prop := memAtRow.holds Try.pinned (OpenSpec.ofChange memAtWrong)

/-- 'freshetlaw06.BatchRows': WHATEVER THE INPUT: true; the input reads as it did. -/
def batchRowsSpec : ChangeSpec := { name := "batchRows", fn := fun _ => fun
  | [d1, d2] => { results := [.lit (.bool true)], args := [d1, d2] }
  | _ => none }
def batchRowsRow : OpenClaim := { program := "ytfemebenkbobnaa", sum := "e65e87c46b99d7f7f8e3dac311d552509a292fc85615a7a5b4c5d7670bd8ece7", func := "freshet/freshetlaw06.BatchRows", spec := "batchRows", unfollowed := true, recurses := true, apart := false }
def BatchRowsSaid : Prop := batchRowsRow.holds Try.pinned (OpenSpec.ofChange batchRowsSpec)

/-- ITS FALSE NEIGHBOUR: 'it returns false'. Refute it at one input. -/
def batchRowsWrong : ChangeSpec := { name := "batchRows", fn := fun _ => fun
  | [d1, d2] => { results := [.lit (.bool false)], args := [d1, d2] }
  | _ => none }
def BatchRowsWrongFalsely : Prop := batchRowsRow.holds Try.pinned (OpenSpec.ofChange batchRowsWrong)

/-- 'freshetlaw09.MemPlays': WHATEVER THE INPUT: true; the input reads as it did. -/
def memPlaysSpec : ChangeSpec := { name := "memPlays", fn := fun _ => fun
  | [d] => { results := [.lit (.bool true)], args := [d] }
  | _ => none }
def memPlaysRow : OpenClaim := { program := "ytfemebenkbobnaa", sum := "e65e87c46b99d7f7f8e3dac311d552509a292fc85615a7a5b4c5d7670bd8ece7", func := "freshet/freshetlaw09.MemPlays", spec := "memPlays", unfollowed := true, recurses := true, apart := false }
def MemPlaysSaid : Prop := memPlaysRow.holds Try.pinned (OpenSpec.ofChange memPlaysSpec)

/-- ITS FALSE NEIGHBOUR: 'it returns false'. Refute it at one input. -/
def memPlaysWrong : ChangeSpec := { name := "memPlays", fn := fun _ => fun
  | [d] => { results := [.lit (.bool false)], args := [d] }
  | _ => none }
def MemPlaysWrongFalsely : Prop := memPlaysRow.holds Try.pinned (OpenSpec.ofChange memPlaysWrong)

/-- 'freshetlaw09.MemNone': WHATEVER THE INPUT: true; the input reads as it did. -/
def memNoneSpec : ChangeSpec := { name := "memNone", fn := fun _ => fun
  | [d1, d2, d3] => { results := [.lit (.bool true)], args := [d1, d2, d3] }
  | _ => none }
def memNoneRow : OpenClaim := { program := "ytfemebenkbobnaa", sum := "e65e87c46b99d7f7f8e3dac311d552509a292fc85615a7a5b4c5d7670bd8ece7", func := "freshet/freshetlaw09.MemNone", spec := "memNone", unfollowed := true, recurses := true, apart := false }
def MemNoneSaid : Prop := memNoneRow.holds Try.pinned (OpenSpec.ofChange memNoneSpec)

/-- ITS FALSE NEIGHBOUR: 'it returns false'. Refute it at one input. -/
def memNoneWrong : ChangeSpec := { name := "memNone", fn := fun _ => fun
  | [d1, d2, d3] => { results := [.lit (.bool false)], args := [d1, d2, d3] }
  | _ => none }
def MemNoneWrongFalsely : Prop := memNoneRow.holds Try.pinned (OpenSpec.ofChange memNoneWrong)

/-- 'freshetlaw09.MemHeights': WHATEVER THE INPUT: true; the input reads as it did. -/
def memHeightsSpec : ChangeSpec := { name := "memHeights", fn := fun _ => fun
  | [d1, d2, d3, d4] => { results := [.lit (.bool true)], args := [d1, d2, d3, d4] }
  | _ => none }
def memHeightsRow : OpenClaim := { program := "ytfemebenkbobnaa", sum := "e65e87c46b99d7f7f8e3dac311d552509a292fc85615a7a5b4c5d7670bd8ece7", func := "freshet/freshetlaw09.MemHeights", spec := "memHeights", unfollowed := true, recurses := true, apart := false }
def MemHeightsSaid : Prop := memHeightsRow.holds Try.pinned (OpenSpec.ofChange memHeightsSpec)

/-- ITS FALSE NEIGHBOUR: 'it returns false'. Refute it at one input. -/
def memHeightsWrong : ChangeSpec := { name := "memHeights", fn := fun _ => fun
  | [d1, d2, d3, d4] => { results := [.lit (.bool false)], args := [d1, d2, d3, d4] }
  | _ => none }
def MemHeightsWrongFalsely : Prop := memHeightsRow.holds Try.pinned (OpenSpec.ofChange memHeightsWrong)

/-- 'freshetlaw09.MemParts': WHATEVER THE INPUT: true; the input reads as it did. -/
def memPartsSpec : ChangeSpec := { name := "memParts", fn := fun _ => fun
  | [d1, d2, d3, d4] => { results := [.lit (.bool true)], args := [d1, d2, d3, d4] }
  | _ => none }
def memPartsRow : OpenClaim := { program := "ytfemebenkbobnaa", sum := "e65e87c46b99d7f7f8e3dac311d552509a292fc85615a7a5b4c5d7670bd8ece7", func := "freshet/freshetlaw09.MemParts", spec := "memParts", unfollowed := true, recurses := true, apart := false }
def MemPartsSaid : Prop := memPartsRow.holds Try.pinned (OpenSpec.ofChange memPartsSpec)

/-- ITS FALSE NEIGHBOUR: 'it returns false'. Refute it at one input. -/
def memPartsWrong : ChangeSpec := { name := "memParts", fn := fun _ => fun
  | [d1, d2, d3, d4] => { results := [.lit (.bool false)], args := [d1, d2, d3, d4] }
  | _ => none }
def MemPartsWrongFalsely : Prop := memPartsRow.holds Try.pinned (OpenSpec.ofChange memPartsWrong)

/- THE SECOND FORM. 'bulk': how many values and letters a reading holds, each counted each time it is reached (what is shared counts as often as it is met; a slice's spare places count too). A statement '..UptoSaid' is the law's where the arguments, and the package variables that the reading takes, are together of bulk at most 1048576: NARROWER than '..Said'. Prove '..Said' where nothing that the law and all that it calls make is longer than what came in: it says more and counts as full. Else prove '..UptoSaid'. A law counts once. -/
mutual
def uptoBulk {H : Type} : DataW H → Nat
  | .lit (.string bytes) => bytes.length + 1
  | .lit _ => 1
  | .nil => 1
  | .ptr d => uptoBulk d + 1
  | .slice elems spare => uptoBulkAll elems + uptoBulkAll spare + 1
  | .agg parts => uptoBulkAll parts + 1
  | .iface _ d => uptoBulk d + 1
  | .map entries => uptoBulkEntries entries + 1
  | .held _ => 1
def uptoBulkAll {H : Type} : List (DataW H) → Nat
  | [] => 0
  | d :: r => uptoBulk d + uptoBulkAll r
def uptoBulkEntries {H : Type} : List (Lit × DataW H) → Nat
  | [] => 0
  | x :: r => uptoBulkEntry x + uptoBulkEntries r
def uptoBulkEntry {H : Type} : Lit × DataW H → Nat
  | (.string bytes, d) => bytes.length + uptoBulk d + 1
  | (_, d) => uptoBulk d + 1
 end
def uptoSmall : (H : Type) → List (DataW H) → Bool := fun _ ds => decide (uptoBulkAll ds ≤ 1048576)
def OpenSpec.upto (s : _root_.Go.ChangeSpec) : _root_.Go.OpenSpec := { _root_.Go.OpenSpec.ofChange s with cond := some uptoSmall }

/-- 'freshetlaw08.SkipSteps', WHERE WHAT IT READS IS OF BULK AT MOST 1048576: true; the input reads as it did. -/
def skipStepsUptoRow : OpenClaim := { program := "ytfemebenkbobnaa", sum := "e65e87c46b99d7f7f8e3dac311d552509a292fc85615a7a5b4c5d7670bd8ece7", func := "freshet/freshetlaw08.SkipSteps", spec := "skipSteps", unfollowed := true, recurses := true, apart := false, narrowed := true }
def SkipStepsUptoSaid : Prop := skipStepsUptoRow.holds Try.pinned (OpenSpec.upto skipStepsSpec)

/-- 'freshetlaw08.SkipPlays', WHERE WHAT IT READS IS OF BULK AT MOST 1048576: true; the input reads as it did. -/
def skipPlaysUptoRow : OpenClaim := { program := "ytfemebenkbobnaa", sum := "e65e87c46b99d7f7f8e3dac311d552509a292fc85615a7a5b4c5d7670bd8ece7", func := "freshet/freshetlaw08.SkipPlays", spec := "skipPlays", unfollowed := true, recurses := true, apart := false, narrowed := true }
def SkipPlaysUptoSaid : Prop := skipPlaysUptoRow.holds Try.pinned (OpenSpec.upto skipPlaysSpec)

/-- 'freshetlaw08.SkipNone', WHERE WHAT IT READS IS OF BULK AT MOST 1048576: true; the input reads as it did. -/
def skipNoneUptoRow : OpenClaim := { program := "ytfemebenkbobnaa", sum := "e65e87c46b99d7f7f8e3dac311d552509a292fc85615a7a5b4c5d7670bd8ece7", func := "freshet/freshetlaw08.SkipNone", spec := "skipNone", unfollowed := true, recurses := true, apart := false, narrowed := true }
def SkipNoneUptoSaid : Prop := skipNoneUptoRow.holds Try.pinned (OpenSpec.upto skipNoneSpec)

/-- 'freshetlaw08.SkipAny', WHERE WHAT IT READS IS OF BULK AT MOST 1048576: true; the input reads as it did. -/
def skipAnyUptoRow : OpenClaim := { program := "ytfemebenkbobnaa", sum := "e65e87c46b99d7f7f8e3dac311d552509a292fc85615a7a5b4c5d7670bd8ece7", func := "freshet/freshetlaw08.SkipAny", spec := "skipAny", unfollowed := true, recurses := true, apart := false, narrowed := true }
def SkipAnyUptoSaid : Prop := skipAnyUptoRow.holds Try.pinned (OpenSpec.upto skipAnySpec)

/-- 'freshetlaw08.SkipFrom', WHERE WHAT IT READS IS OF BULK AT MOST 1048576: true; the input reads as it did. -/
def skipFromUptoRow : OpenClaim := { program := "ytfemebenkbobnaa", sum := "e65e87c46b99d7f7f8e3dac311d552509a292fc85615a7a5b4c5d7670bd8ece7", func := "freshet/freshetlaw08.SkipFrom", spec := "skipFrom", unfollowed := true, recurses := true, apart := false, narrowed := true }
def SkipFromUptoSaid : Prop := skipFromUptoRow.holds Try.pinned (OpenSpec.upto skipFromSpec)

/-- 'freshetlaw06.BatchEncode', WHERE WHAT IT READS IS OF BULK AT MOST 1048576: true; the input reads as it did. -/
def batchEncodeUptoRow : OpenClaim := { program := "ytfemebenkbobnaa", sum := "e65e87c46b99d7f7f8e3dac311d552509a292fc85615a7a5b4c5d7670bd8ece7", func := "freshet/freshetlaw06.BatchEncode", spec := "batchEncode", unfollowed := true, recurses := true, apart := false, narrowed := true }
def BatchEncodeUptoSaid : Prop := batchEncodeUptoRow.holds Try.pinned (OpenSpec.upto batchEncodeSpec)

/-- 'freshetlaw06.BatchDecode', WHERE WHAT IT READS IS OF BULK AT MOST 1048576: true; the input reads as it did. -/
def batchDecodeUptoRow : OpenClaim := { program := "ytfemebenkbobnaa", sum := "e65e87c46b99d7f7f8e3dac311d552509a292fc85615a7a5b4c5d7670bd8ece7", func := "freshet/freshetlaw06.BatchDecode", spec := "batchDecode", unfollowed := true, recurses := true, apart := false, narrowed := true }
def BatchDecodeUptoSaid : Prop := batchDecodeUptoRow.holds Try.pinned (OpenSpec.upto batchDecodeSpec)

/-- 'freshetlaw06.BatchOnly', WHERE WHAT IT READS IS OF BULK AT MOST 1048576: true; the input reads as it did. -/
def batchOnlyUptoRow : OpenClaim := { program := "ytfemebenkbobnaa", sum := "e65e87c46b99d7f7f8e3dac311d552509a292fc85615a7a5b4c5d7670bd8ece7", func := "freshet/freshetlaw06.BatchOnly", spec := "batchOnly", unfollowed := true, recurses := true, apart := false, narrowed := true }
def BatchOnlyUptoSaid : Prop := batchOnlyUptoRow.holds Try.pinned (OpenSpec.upto batchOnlySpec)

/-- 'freshetlaw06.BatchNumbers', WHERE WHAT IT READS IS OF BULK AT MOST 1048576: true; the input reads as it did. -/
def batchNumbersUptoRow : OpenClaim := { program := "ytfemebenkbobnaa", sum := "e65e87c46b99d7f7f8e3dac311d552509a292fc85615a7a5b4c5d7670bd8ece7", func := "freshet/freshetlaw06.BatchNumbers", spec := "batchNumbers", unfollowed := true, recurses := true, apart := false, narrowed := true }
def BatchNumbersUptoSaid : Prop := batchNumbersUptoRow.holds Try.pinned (OpenSpec.upto batchNumbersSpec)

/-- 'freshetlaw06.BatchCut', WHERE WHAT IT READS IS OF BULK AT MOST 1048576: true; the input reads as it did. -/
def batchCutUptoRow : OpenClaim := { program := "ytfemebenkbobnaa", sum := "e65e87c46b99d7f7f8e3dac311d552509a292fc85615a7a5b4c5d7670bd8ece7", func := "freshet/freshetlaw06.BatchCut", spec := "batchCut", unfollowed := true, recurses := true, apart := false, narrowed := true }
def BatchCutUptoSaid : Prop := batchCutUptoRow.holds Try.pinned (OpenSpec.upto batchCutSpec)

/-- 'freshetlaw06.BatchBack', WHERE WHAT IT READS IS OF BULK AT MOST 1048576: true; the input reads as it did. -/
def batchBackUptoRow : OpenClaim := { program := "ytfemebenkbobnaa", sum := "e65e87c46b99d7f7f8e3dac311d552509a292fc85615a7a5b4c5d7670bd8ece7", func := "freshet/freshetlaw06.BatchBack", spec := "batchBack", unfollowed := true, recurses := true, apart := false, narrowed := true }
def BatchBackUptoSaid : Prop := batchBackUptoRow.holds Try.pinned (OpenSpec.upto batchBackSpec)

/-- 'freshetlaw09.MemAt', WHERE WHAT IT READS IS OF BULK AT MOST 1048576: true; the input reads as it did. -/
def memAtUptoRow : OpenClaim := { program := "ytfemebenkbobnaa", sum := "e65e87c46b99d7f7f8e3dac311d552509a292fc85615a7a5b4c5d7670bd8ece7", func := "freshet/freshetlaw09.MemAt", spec := "memAt", unfollowed := true, recurses := true, apart := false, narrowed := true }
def MemAtUptoSaid : Prop := memAtUptoRow.holds Try.pinned (OpenSpec.upto memAtSpec)

/-- 'freshetlaw06.BatchRows', WHERE WHAT IT READS IS OF BULK AT MOST 1048576: true; the input reads as it did. -/
def batchRowsUptoRow : OpenClaim := { program := "ytfemebenkbobnaa", sum := "e65e87c46b99d7f7f8e3dac311d552509a292fc85615a7a5b4c5d7670bd8ece7", func := "freshet/freshetlaw06.BatchRows", spec := "batchRows", unfollowed := true, recurses := true, apart := false, narrowed := true }
def BatchRowsUptoSaid : Prop := batchRowsUptoRow.holds Try.pinned (OpenSpec.upto batchRowsSpec)

/-- 'freshetlaw09.MemPlays', WHERE WHAT IT READS IS OF BULK AT MOST 1048576: true; the input reads as it did. -/
def memPlaysUptoRow : OpenClaim := { program := "ytfemebenkbobnaa", sum := "e65e87c46b99d7f7f8e3dac311d552509a292fc85615a7a5b4c5d7670bd8ece7", func := "freshet/freshetlaw09.MemPlays", spec := "memPlays", unfollowed := true, recurses := true, apart := false, narrowed := true }
def MemPlaysUptoSaid : Prop := memPlaysUptoRow.holds Try.pinned (OpenSpec.upto memPlaysSpec)

/-- 'freshetlaw09.MemNone', WHERE WHAT IT READS IS OF BULK AT MOST 1048576: true; the input reads as it did. -/
def memNoneUptoRow : OpenClaim := { program := "ytfemebenkbobnaa", sum := "e65e87c46b99d7f7f8e3dac311d552509a292fc85615a7a5b4c5d7670bd8ece7", func := "freshet/freshetlaw09.MemNone", spec := "memNone", unfollowed := true, recurses := true, apart := false, narrowed := true }
def MemNoneUptoSaid : Prop := memNoneUptoRow.holds Try.pinned (OpenSpec.upto memNoneSpec)

/-- 'freshetlaw09.MemHeights', WHERE WHAT IT READS IS OF BULK AT MOST 1048576: true; the input reads as it did. -/
def memHeightsUptoRow : OpenClaim := { program := "ytfemebenkbobnaa", sum := "e65e87c46b99d7f7f8e3dac311d552509a292fc85615a7a5b4c5d7670bd8ece7", func := "freshet/freshetlaw09.MemHeights", spec := "memHeights", unfollowed := true, recurses := true, apart := false, narrowed := true }
def MemHeightsUptoSaid : Prop := memHeightsUptoRow.holds Try.pinned (OpenSpec.upto memHeightsSpec)

/-- 'freshetlaw09.MemParts', WHERE WHAT IT READS IS OF BULK AT MOST 1048576: true; the input reads as it did. -/
def memPartsUptoRow : OpenClaim := { program := "ytfemebenkbobnaa", sum := "e65e87c46b99d7f7f8e3dac311d552509a292fc85615a7a5b4c5d7670bd8ece7", func := "freshet/freshetlaw09.MemParts", spec := "memParts", unfollowed := true, recurses := true, apart := false, narrowed := true }
def MemPartsUptoSaid : Prop := memPartsUptoRow.holds Try.pinned (OpenSpec.upto memPartsSpec)

end Rows
end Go.Proofs.Ytfemebenkbobnaa
