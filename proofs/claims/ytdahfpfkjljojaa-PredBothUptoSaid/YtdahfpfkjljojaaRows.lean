/-
  No cell of these rows narrows 'for every input' (looked for: loops, veiled, ifaces, maps, wideKeys, modest, calm, conditions, laid).
  DERIVED. THE GIVEN ROWS OF THIS SEAT. 9 by the template 'for every input the law returns true; each argument reads behind the call as it read before'; 0 by the template 'total and deterministic' (their statements: YtdahfpfkjljojaaTotals.lean).
  GIVEN WITH THE SEED: the statements are not yours to turn. If you find one false, say at which input.
  Laid BY PROGRAM, IN A SANDBOX (cutbox-rows.mjs): the forced cells as the released guide's own fill.sh prints them over the translation 25d3813dd09b64dd… (all of the seat's roots in one cut). By AI agents, Wed Nov 11 2026. No macro, syntax, notation, axiom, sorry.
-/
import Derived.Test.YtdahfpfkjljojaaChecked
import GoSem.Claim
import GoSem.ClaimJoined
import GoSem.ClaimMapViews
import Derived.JoinedTies
import Derived.KernelRfl
namespace Go.Proofs.Ytdahfpfkjljojaa
/- THE CELL 'sum', in the pinned program and in every row, IS THE sha256 OF THE DUMP (.gsa) THAT YtdahfpfkjljojaaProg.lean LOADS. Nothing in Lean hashes anything: it is a label: what it is worth is what the hold of that sum in a sandbox is worth. -/
noncomputable def Try.pinned : Pinned := { name := "ytdahfpfkjljojaa", sum := "25d3813dd09b64dd571f3c5d9a78d9a3e18949db635d83f393177c8f8daa2ac6", checked := Try.checked }
namespace Rows
def none {H : Type} : Left H := { results := [], args := [] }

/-- 'partkeep.CutGrows': WHATEVER THE INPUT: true; the input reads as it did. -/
def cutGrowsSpec : ChangeSpec := { name := "cutGrows", fn := fun _ => fun
  | [d1, d2, d3] => { results := [.lit (.bool true)], args := [d1, d2, d3] }
  | _ => none }
def cutGrowsRow : OpenClaim := { program := "ytdahfpfkjljojaa", sum := "25d3813dd09b64dd571f3c5d9a78d9a3e18949db635d83f393177c8f8daa2ac6", func := "partsong/partkeep.CutGrows", spec := "cutGrows", plainKeys := false, apart := false }
def CutGrowsSaid : Prop := cutGrowsRow.holds Try.pinned (OpenSpec.ofChange cutGrowsSpec)

/-- ITS FALSE NEIGHBOUR: 'it returns false'. Refute it at one input. -/
def cutGrowsWrong : ChangeSpec := { name := "cutGrows", fn := fun _ => fun
  | [d1, d2, d3] => { results := [.lit (.bool false)], args := [d1, d2, d3] }
  | _ => none }
def CutGrowsWrongFalsely : Prop := cutGrowsRow.holds Try.pinned (OpenSpec.ofChange cutGrowsWrong)

/-- 'partkeep.CutMeets': WHATEVER THE INPUT: true; the input reads as it did. -/
def cutMeetsSpec : ChangeSpec := { name := "cutMeets", fn := fun _ => fun
  | [d1, d2, d3] => { results := [.lit (.bool true)], args := [d1, d2, d3] }
  | _ => none }
def cutMeetsRow : OpenClaim := { program := "ytdahfpfkjljojaa", sum := "25d3813dd09b64dd571f3c5d9a78d9a3e18949db635d83f393177c8f8daa2ac6", func := "partsong/partkeep.CutMeets", spec := "cutMeets", plainKeys := false, apart := false }
def CutMeetsSaid : Prop := cutMeetsRow.holds Try.pinned (OpenSpec.ofChange cutMeetsSpec)

/-- ITS FALSE NEIGHBOUR: 'it returns false'. Refute it at one input. -/
def cutMeetsWrong : ChangeSpec := { name := "cutMeets", fn := fun _ => fun
  | [d1, d2, d3] => { results := [.lit (.bool false)], args := [d1, d2, d3] }
  | _ => none }
def CutMeetsWrongFalsely : Prop := cutMeetsRow.holds Try.pinned (OpenSpec.ofChange cutMeetsWrong)

/-- 'partkeep.CutShrinks': WHATEVER THE INPUT: true; the input reads as it did. -/
def cutShrinksSpec : ChangeSpec := { name := "cutShrinks", fn := fun _ => fun
  | [d1, d2, d3] => { results := [.lit (.bool true)], args := [d1, d2, d3] }
  | _ => none }
def cutShrinksRow : OpenClaim := { program := "ytdahfpfkjljojaa", sum := "25d3813dd09b64dd571f3c5d9a78d9a3e18949db635d83f393177c8f8daa2ac6", func := "partsong/partkeep.CutShrinks", spec := "cutShrinks", plainKeys := false, apart := false }
def CutShrinksSaid : Prop := cutShrinksRow.holds Try.pinned (OpenSpec.ofChange cutShrinksSpec)

/-- ITS FALSE NEIGHBOUR: 'it returns false'. Refute it at one input. -/
def cutShrinksWrong : ChangeSpec := { name := "cutShrinks", fn := fun _ => fun
  | [d1, d2, d3] => { results := [.lit (.bool false)], args := [d1, d2, d3] }
  | _ => none }
def CutShrinksWrongFalsely : Prop := cutShrinksRow.holds Try.pinned (OpenSpec.ofChange cutShrinksWrong)

/-- 'partkeep.CutMany': WHATEVER THE INPUT: true; the input reads as it did. -/
def cutManySpec : ChangeSpec := { name := "cutMany", fn := fun _ => fun
  | [d] => { results := [.lit (.bool true)], args := [d] }
  | _ => none }
def cutManyRow : OpenClaim := { program := "ytdahfpfkjljojaa", sum := "25d3813dd09b64dd571f3c5d9a78d9a3e18949db635d83f393177c8f8daa2ac6", func := "partsong/partkeep.CutMany", spec := "cutMany", unfollowed := true, recurses := true, plainKeys := false, apart := false }
def CutManySaid : Prop := cutManyRow.holds Try.pinned (OpenSpec.ofChange cutManySpec)

/-- ITS FALSE NEIGHBOUR: 'it returns false'. Refute it at one input. -/
def cutManyWrong : ChangeSpec := { name := "cutMany", fn := fun _ => fun
  | [d] => { results := [.lit (.bool false)], args := [d] }
  | _ => none }
def CutManyWrongFalsely : Prop := cutManyRow.holds Try.pinned (OpenSpec.ofChange cutManyWrong)

/-- 'partkeep.CutSteps': WHATEVER THE INPUT: true; the input reads as it did. -/
def cutStepsSpec : ChangeSpec := { name := "cutSteps", fn := fun _ => fun
  | [d1, d2] => { results := [.lit (.bool true)], args := [d1, d2] }
  | _ => none }
def cutStepsRow : OpenClaim := { program := "ytdahfpfkjljojaa", sum := "25d3813dd09b64dd571f3c5d9a78d9a3e18949db635d83f393177c8f8daa2ac6", func := "partsong/partkeep.CutSteps", spec := "cutSteps", plainKeys := false, apart := false }
def CutStepsSaid : Prop := cutStepsRow.holds Try.pinned (OpenSpec.ofChange cutStepsSpec)

/-- ITS FALSE NEIGHBOUR: 'it returns false'. Refute it at one input. -/
def cutStepsWrong : ChangeSpec := { name := "cutSteps", fn := fun _ => fun
  | [d1, d2] => { results := [.lit (.bool false)], args := [d1, d2] }
  | _ => none }
def CutStepsWrongFalsely : Prop := cutStepsRow.holds Try.pinned (OpenSpec.ofChange cutStepsWrong)

/-- 'partkeep.PredFirst': WHATEVER THE INPUT: true; the input reads as it did. -/
def predFirstSpec : ChangeSpec := { name := "predFirst", fn := fun _ => fun
  | [d1, d2, d3] => { results := [.lit (.bool true)], args := [d1, d2, d3] }
  | _ => none }
def predFirstRow : OpenClaim := { program := "ytdahfpfkjljojaa", sum := "25d3813dd09b64dd571f3c5d9a78d9a3e18949db635d83f393177c8f8daa2ac6", func := "partsong/partkeep.PredFirst", spec := "predFirst", plainKeys := false, apart := false }
def PredFirstSaid : Prop := predFirstRow.holds Try.pinned (OpenSpec.ofChange predFirstSpec)

/-- ITS FALSE NEIGHBOUR: 'it returns false'. Refute it at one input. -/
def predFirstWrong : ChangeSpec := { name := "predFirst", fn := fun _ => fun
  | [d1, d2, d3] => { results := [.lit (.bool false)], args := [d1, d2, d3] }
  | _ => none }
def PredFirstWrongFalsely : Prop := predFirstRow.holds Try.pinned (OpenSpec.ofChange predFirstWrong)

/-- 'partkeep.PredMust': WHATEVER THE INPUT: true; the input reads as it did. -/
def predMustSpec : ChangeSpec := { name := "predMust", fn := fun _ => fun
  | [d1, d2, d3] => { results := [.lit (.bool true)], args := [d1, d2, d3] }
  | _ => none }
def predMustRow : OpenClaim := { program := "ytdahfpfkjljojaa", sum := "25d3813dd09b64dd571f3c5d9a78d9a3e18949db635d83f393177c8f8daa2ac6", func := "partsong/partkeep.PredMust", spec := "predMust", plainKeys := false, apart := false }
def PredMustSaid : Prop := predMustRow.holds Try.pinned (OpenSpec.ofChange predMustSpec)

/-- ITS FALSE NEIGHBOUR: 'it returns false'. Refute it at one input. -/
def predMustWrong : ChangeSpec := { name := "predMust", fn := fun _ => fun
  | [d1, d2, d3] => { results := [.lit (.bool false)], args := [d1, d2, d3] }
  | _ => none }
def PredMustWrongFalsely : Prop := predMustRow.holds Try.pinned (OpenSpec.ofChange predMustWrong)

/-- 'partkeep.PredBoth': WHATEVER THE INPUT: true; the input reads as it did. -/
def predBothSpec : ChangeSpec := { name := "predBoth", fn := fun _ => fun
  | [d1, d2] => { results := [.lit (.bool true)], args := [d1, d2] }
  | _ => none }
def predBothRow : OpenClaim := { program := "ytdahfpfkjljojaa", sum := "25d3813dd09b64dd571f3c5d9a78d9a3e18949db635d83f393177c8f8daa2ac6", func := "partsong/partkeep.PredBoth", spec := "predBoth", plainKeys := false, apart := false }
def PredBothSaid : Prop := predBothRow.holds Try.pinned (OpenSpec.ofChange predBothSpec)

/-- ITS FALSE NEIGHBOUR: 'it returns false'. Refute it at one input. -/
def predBothWrong : ChangeSpec := { name := "predBoth", fn := fun _ => fun
  | [d1, d2] => { results := [.lit (.bool false)], args := [d1, d2] }
  | _ => none }
def PredBothWrongFalsely : Prop := predBothRow.holds Try.pinned (OpenSpec.ofChange predBothWrong)

/-- 'partkeep.PredMore': WHATEVER THE INPUT: true; the input reads as it did. -/
def predMoreSpec : ChangeSpec := { name := "predMore", fn := fun _ => fun
  | [d1, d2, d3] => { results := [.lit (.bool true)], args := [d1, d2, d3] }
  | _ => none }
def predMoreRow : OpenClaim := { program := "ytdahfpfkjljojaa", sum := "25d3813dd09b64dd571f3c5d9a78d9a3e18949db635d83f393177c8f8daa2ac6", func := "partsong/partkeep.PredMore", spec := "predMore", plainKeys := false, apart := false }
def PredMoreSaid : Prop := predMoreRow.holds Try.pinned (OpenSpec.ofChange predMoreSpec)

/-- ITS FALSE NEIGHBOUR: 'it returns false'. Refute it at one input. -/
def predMoreWrong : ChangeSpec := { name := "predMore", fn := fun _ => fun
  | [d1, d2, d3] => { results := [.lit (.bool false)], args := [d1, d2, d3] }
  | _ => none }
def PredMoreWrongFalsely : Prop := predMoreRow.holds Try.pinned (OpenSpec.ofChange predMoreWrong)

/- THE SECOND FORM. 'bulk': how many values and letters a reading holds, each counted each time it is reached (what is shared counts as often as it is met; a slice's spare places count too). A statement '..UptoSaid' is the law's where the arguments, and the package variables that the reading takes, are together of bulk at most 1048576: NARROWER than '..Said'. Prove '..Said' where nothing that the law and all that it calls make is longer than what came in: it says more and counts as full. Else prove '..UptoSaid'. A law counts once. -/
mutual
def uptoBulk {H : Type} : DataW H → Nat
  | .lit (.string bytes) => bytes.length + 1
  | .lit _ => 1
  | .nil => 1
  | .ptr d => uptoBulk d + 1
  | .slice elems spare => uptoBulkAll elems + uptoBulkAll spare + 1
  | .agg parts => uptoBulkAll parts + 1
  | .iface _ d => uptoBulk d + 1
  | .map entries => uptoBulkEntries entries + 1
  | .held _ => 1
def uptoBulkAll {H : Type} : List (DataW H) → Nat
  | [] => 0
  | d :: r => uptoBulk d + uptoBulkAll r
def uptoBulkEntries {H : Type} : List (Lit × DataW H) → Nat
  | [] => 0
  | x :: r => uptoBulkEntry x + uptoBulkEntries r
def uptoBulkEntry {H : Type} : Lit × DataW H → Nat
  | (.string bytes, d) => bytes.length + uptoBulk d + 1
  | (_, d) => uptoBulk d + 1
 end
def uptoSmall : (H : Type) → List (DataW H) → Bool := fun _ ds => decide (uptoBulkAll ds ≤ 1048576)
def OpenSpec.upto (s : _root_.Go.ChangeSpec) : _root_.Go.OpenSpec := { _root_.Go.OpenSpec.ofChange s with cond := some uptoSmall }

/-- 'partkeep.CutGrows', WHERE WHAT IT READS IS OF BULK AT MOST 1048576: true; the input reads as it did. -/
def cutGrowsUptoRow : OpenClaim := { program := "ytdahfpfkjljojaa", sum := "25d3813dd09b64dd571f3c5d9a78d9a3e18949db635d83f393177c8f8daa2ac6", func := "partsong/partkeep.CutGrows", spec := "cutGrows", plainKeys := false, apart := false, narrowed := true }
def CutGrowsUptoSaid : Prop := cutGrowsUptoRow.holds Try.pinned (OpenSpec.upto cutGrowsSpec)

/-- 'partkeep.CutMeets', WHERE WHAT IT READS IS OF BULK AT MOST 1048576: true; the input reads as it did. -/
def cutMeetsUptoRow : OpenClaim := { program := "ytdahfpfkjljojaa", sum := "25d3813dd09b64dd571f3c5d9a78d9a3e18949db635d83f393177c8f8daa2ac6", func := "partsong/partkeep.CutMeets", spec := "cutMeets", plainKeys := false, apart := false, narrowed := true }
def CutMeetsUptoSaid : Prop := cutMeetsUptoRow.holds Try.pinned (OpenSpec.upto cutMeetsSpec)

/-- 'partkeep.CutShrinks', WHERE WHAT IT READS IS OF BULK AT MOST 1048576: true; the input reads as it did. -/
def cutShrinksUptoRow : OpenClaim := { program := "ytdahfpfkjljojaa", sum := "25d3813dd09b64dd571f3c5d9a78d9a3e18949db635d83f393177c8f8daa2ac6", func := "partsong/partkeep.CutShrinks", spec := "cutShrinks", plainKeys := false, apart := false, narrowed := true }
def CutShrinksUptoSaid : Prop := cutShrinksUptoRow.holds Try.pinned (OpenSpec.upto cutShrinksSpec)

/-- 'partkeep.CutMany', WHERE WHAT IT READS IS OF BULK AT MOST 1048576: true; the input reads as it did. -/
def cutManyUptoRow : OpenClaim := { program := "ytdahfpfkjljojaa", sum := "25d3813dd09b64dd571f3c5d9a78d9a3e18949db635d83f393177c8f8daa2ac6", func := "partsong/partkeep.CutMany", spec := "cutMany", unfollowed := true, recurses := true, plainKeys := false, apart := false, narrowed := true }
def CutManyUptoSaid : Prop := cutManyUptoRow.holds Try.pinned (OpenSpec.upto cutManySpec)

/-- 'partkeep.CutSteps', WHERE WHAT IT READS IS OF BULK AT MOST 1048576: true; the input reads as it did. -/
def cutStepsUptoRow : OpenClaim := { program := "ytdahfpfkjljojaa", sum := "25d3813dd09b64dd571f3c5d9a78d9a3e18949db635d83f393177c8f8daa2ac6", func := "partsong/partkeep.CutSteps", spec := "cutSteps", plainKeys := false, apart := false, narrowed := true }
def CutStepsUptoSaid : Prop := cutStepsUptoRow.holds Try.pinned (OpenSpec.upto cutStepsSpec)

/-- 'partkeep.PredFirst', WHERE WHAT IT READS IS OF BULK AT MOST 1048576: true; the input reads as it did. -/
def predFirstUptoRow : OpenClaim := { program := "ytdahfpfkjljojaa", sum := "25d3813dd09b64dd571f3c5d9a78d9a3e18949db635d83f393177c8f8daa2ac6", func := "partsong/partkeep.PredFirst", spec := "predFirst", plainKeys := false, apart := false, narrowed := true }
def PredFirstUptoSaid : Prop := predFirstUptoRow.holds Try.pinned (OpenSpec.upto predFirstSpec)

/-- 'partkeep.PredMust', WHERE WHAT IT READS IS OF BULK AT MOST 1048576: true; the input reads as it did. -/
def predMustUptoRow : OpenClaim := { program := "ytdahfpfkjljojaa", sum := "25d3813dd09b64dd571f3c5d9a78d9a3e18949db635d83f393177c8f8daa2ac6", func := "partsong/partkeep.PredMust", spec := "predMust", plainKeys := false, apart := false, narrowed := true }
def PredMustUptoSaid : Prop := predMustUptoRow.holds Try.pinned (OpenSpec.upto predMustSpec)

/-- 'partkeep.PredBoth', WHERE WHAT IT READS IS OF BULK AT MOST 1048576: true; the input reads as it did. -/
def predBothUptoRow : OpenClaim := { program := "ytdahfpfkjljojaa", sum := "25d3813dd09b64dd571f3c5d9a78d9a3e18949db635d83f393177c8f8daa2ac6", func := "partsong/partkeep.PredBoth", spec := "predBoth", plainKeys := false, apart := false, narrowed := true }
def PredBothUptoSaid : Prop := predBothUptoRow.holds Try.pinned (OpenSpec.upto predBothSpec)

/-- 'partkeep.PredMore', WHERE WHAT IT READS IS OF BULK AT MOST 1048576: true; the input reads as it did. -/
def predMoreUptoRow : OpenClaim := { program := "ytdahfpfkjljojaa", sum := "25d3813dd09b64dd571f3c5d9a78d9a3e18949db635d83f393177c8f8daa2ac6", func := "partsong/partkeep.PredMore", spec := "predMore", plainKeys := false, apart := false, narrowed := true }
def PredMoreUptoSaid : Prop := predMoreUptoRow.holds Try.pinned (OpenSpec.upto predMoreSpec)

end Rows
end Go.Proofs.Ytdahfpfkjljojaa
