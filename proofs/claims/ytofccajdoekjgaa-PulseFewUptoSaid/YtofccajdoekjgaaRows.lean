/-
  No cell of these rows narrows 'for every input' (looked for: loops, veiled, ifaces, maps, wideKeys, modest, calm, conditions, laid).
  DERIVED. THE GIVEN ROWS OF THIS SEAT. 7 by the template 'for every input the law returns true; each argument reads behind the call as it read before'; 0 by the template 'total and deterministic' (their statements: YtofccajdoekjgaaTotals.lean).
  GIVEN WITH THE SEED: the statements are not yours to turn. If you find one false, say at which input.
  Laid BY PROGRAM, IN A SANDBOX (cutbox-rows.mjs): the forced cells as the released guide's own fill.sh prints them over the translation f54e3b0cadd50b4c… (all of the seat's roots in one cut). By AI agents, Wed Nov 11 2026. No macro, syntax, notation, axiom, sorry.
-/
import Derived.Test.YtofccajdoekjgaaChecked
import GoSem.Claim
import GoSem.ClaimJoined
import GoSem.ClaimMapViews
import Derived.JoinedTies
import Derived.KernelRfl
namespace Go.Proofs.Ytofccajdoekjgaa
/- THE CELL 'sum', in the pinned program and in every row, IS THE sha256 OF THE DUMP (.gsa) THAT YtofccajdoekjgaaProg.lean LOADS. Nothing in Lean hashes anything: it is a label: what it is worth is what the hold of that sum in a sandbox is worth. -/
noncomputable def Try.pinned : Pinned := { name := "ytofccajdoekjgaa", sum := "f54e3b0cadd50b4c91797a4b7b604117ffe619bf93994e1cbccfc1f485be62c0", checked := Try.checked }
namespace Rows
def none {H : Type} : Left H := { results := [], args := [] }

/-- 'partkeep.ViewMeets': WHATEVER THE INPUT: true; the input reads as it did. -/
def viewMeetsSpec : ChangeSpec := { name := "viewMeets", fn := fun _ => fun
  | [d1, d2, d3] => { results := [.lit (.bool true)], args := [d1, d2, d3] }
  | _ => none }
def viewMeetsRow : OpenClaim := { program := "ytofccajdoekjgaa", sum := "f54e3b0cadd50b4c91797a4b7b604117ffe619bf93994e1cbccfc1f485be62c0", func := "partsong/partkeep.ViewMeets", spec := "viewMeets", apart := false }
def ViewMeetsSaid : Prop := viewMeetsRow.holds Try.pinned (OpenSpec.ofChange viewMeetsSpec)

/-- ITS FALSE NEIGHBOUR: 'it returns false'. Refute it at one input. -/
def viewMeetsWrong : ChangeSpec := { name := "viewMeets", fn := fun _ => fun
  | [d1, d2, d3] => { results := [.lit (.bool false)], args := [d1, d2, d3] }
  | _ => none }
def ViewMeetsWrongFalsely : Prop := viewMeetsRow.holds Try.pinned (OpenSpec.ofChange viewMeetsWrong)

/-- 'partkeep.ViewSplit': WHATEVER THE INPUT: true; the input reads as it did. -/
def viewSplitSpec : ChangeSpec := { name := "viewSplit", fn := fun _ => fun
  | [d1, d2] => { results := [.lit (.bool true)], args := [d1, d2] }
  | _ => none }
def viewSplitRow : OpenClaim := { program := "ytofccajdoekjgaa", sum := "f54e3b0cadd50b4c91797a4b7b604117ffe619bf93994e1cbccfc1f485be62c0", func := "partsong/partkeep.ViewSplit", spec := "viewSplit", apart := false }
def ViewSplitSaid : Prop := viewSplitRow.holds Try.pinned (OpenSpec.ofChange viewSplitSpec)

/-- ITS FALSE NEIGHBOUR: 'it returns false'. Refute it at one input. -/
def viewSplitWrong : ChangeSpec := { name := "viewSplit", fn := fun _ => fun
  | [d1, d2] => { results := [.lit (.bool false)], args := [d1, d2] }
  | _ => none }
def ViewSplitWrongFalsely : Prop := viewSplitRow.holds Try.pinned (OpenSpec.ofChange viewSplitWrong)

/-- 'partkeep.ViewLine': WHATEVER THE INPUT: true; the input reads as it did. -/
def viewLineSpec : ChangeSpec := { name := "viewLine", fn := fun _ => fun
  | [d1, d2] => { results := [.lit (.bool true)], args := [d1, d2] }
  | _ => none }
def viewLineRow : OpenClaim := { program := "ytofccajdoekjgaa", sum := "f54e3b0cadd50b4c91797a4b7b604117ffe619bf93994e1cbccfc1f485be62c0", func := "partsong/partkeep.ViewLine", spec := "viewLine", apart := false }
def ViewLineSaid : Prop := viewLineRow.holds Try.pinned (OpenSpec.ofChange viewLineSpec)

/-- ITS FALSE NEIGHBOUR: 'it returns false'. Refute it at one input. -/
def viewLineWrong : ChangeSpec := { name := "viewLine", fn := fun _ => fun
  | [d1, d2] => { results := [.lit (.bool false)], args := [d1, d2] }
  | _ => none }
def ViewLineWrongFalsely : Prop := viewLineRow.holds Try.pinned (OpenSpec.ofChange viewLineWrong)

/-- 'partkeep.ViewNext': WHATEVER THE INPUT: true; the input reads as it did. -/
def viewNextSpec : ChangeSpec := { name := "viewNext", fn := fun _ => fun
  | [d1, d2, d3] => { results := [.lit (.bool true)], args := [d1, d2, d3] }
  | _ => none }
def viewNextRow : OpenClaim := { program := "ytofccajdoekjgaa", sum := "f54e3b0cadd50b4c91797a4b7b604117ffe619bf93994e1cbccfc1f485be62c0", func := "partsong/partkeep.ViewNext", spec := "viewNext", apart := false }
def ViewNextSaid : Prop := viewNextRow.holds Try.pinned (OpenSpec.ofChange viewNextSpec)

/-- ITS FALSE NEIGHBOUR: 'it returns false'. Refute it at one input. -/
def viewNextWrong : ChangeSpec := { name := "viewNext", fn := fun _ => fun
  | [d1, d2, d3] => { results := [.lit (.bool false)], args := [d1, d2, d3] }
  | _ => none }
def ViewNextWrongFalsely : Prop := viewNextRow.holds Try.pinned (OpenSpec.ofChange viewNextWrong)

/-- 'partkeep.PulseLead': WHATEVER THE INPUT: true; the input reads as it did. -/
def pulseLeadSpec : ChangeSpec := { name := "pulseLead", fn := fun _ => fun
  | [d1, d2] => { results := [.lit (.bool true)], args := [d1, d2] }
  | _ => none }
def pulseLeadRow : OpenClaim := { program := "ytofccajdoekjgaa", sum := "f54e3b0cadd50b4c91797a4b7b604117ffe619bf93994e1cbccfc1f485be62c0", func := "partsong/partkeep.PulseLead", spec := "pulseLead", apart := false }
def PulseLeadSaid : Prop := pulseLeadRow.holds Try.pinned (OpenSpec.ofChange pulseLeadSpec)

/-- ITS FALSE NEIGHBOUR: 'it returns false'. Refute it at one input. -/
def pulseLeadWrong : ChangeSpec := { name := "pulseLead", fn := fun _ => fun
  | [d1, d2] => { results := [.lit (.bool false)], args := [d1, d2] }
  | _ => none }
def PulseLeadWrongFalsely : Prop := pulseLeadRow.holds Try.pinned (OpenSpec.ofChange pulseLeadWrong)

/-- 'partkeep.PulseDead': WHATEVER THE INPUT: true; the input reads as it did. -/
def pulseDeadSpec : ChangeSpec := { name := "pulseDead", fn := fun _ => fun
  | [d1, d2, d3] => { results := [.lit (.bool true)], args := [d1, d2, d3] }
  | _ => none }
def pulseDeadRow : OpenClaim := { program := "ytofccajdoekjgaa", sum := "f54e3b0cadd50b4c91797a4b7b604117ffe619bf93994e1cbccfc1f485be62c0", func := "partsong/partkeep.PulseDead", spec := "pulseDead", apart := false }
def PulseDeadSaid : Prop := pulseDeadRow.holds Try.pinned (OpenSpec.ofChange pulseDeadSpec)

/-- ITS FALSE NEIGHBOUR: 'it returns false'. Refute it at one input. -/
def pulseDeadWrong : ChangeSpec := { name := "pulseDead", fn := fun _ => fun
  | [d1, d2, d3] => { results := [.lit (.bool false)], args := [d1, d2, d3] }
  | _ => none }
def PulseDeadWrongFalsely : Prop := pulseDeadRow.holds Try.pinned (OpenSpec.ofChange pulseDeadWrong)

/-- 'partkeep.PulseFew': WHATEVER THE INPUT: true; the input reads as it did. -/
def pulseFewSpec : ChangeSpec := { name := "pulseFew", fn := fun _ => fun
  | [d1, d2, d3] => { results := [.lit (.bool true)], args := [d1, d2, d3] }
  | _ => none }
def pulseFewRow : OpenClaim := { program := "ytofccajdoekjgaa", sum := "f54e3b0cadd50b4c91797a4b7b604117ffe619bf93994e1cbccfc1f485be62c0", func := "partsong/partkeep.PulseFew", spec := "pulseFew", apart := false }
def PulseFewSaid : Prop := pulseFewRow.holds Try.pinned (OpenSpec.ofChange pulseFewSpec)

/-- ITS FALSE NEIGHBOUR: 'it returns false'. Refute it at one input. -/
def pulseFewWrong : ChangeSpec := { name := "pulseFew", fn := fun _ => fun
  | [d1, d2, d3] => { results := [.lit (.bool false)], args := [d1, d2, d3] }
  | _ => none }
def PulseFewWrongFalsely : Prop := pulseFewRow.holds Try.pinned (OpenSpec.ofChange pulseFewWrong)

/- THE SECOND FORM. 'bulk': how many values and letters a reading holds, each counted each time it is reached (what is shared counts as often as it is met; a slice's spare places count too). A statement '..UptoSaid' is the law's where the arguments, and the package variables that the reading takes, are together of bulk at most 1048576: NARROWER than '..Said'. Prove '..Said' where nothing that the law and all that it calls make is longer than what came in: it says more and counts as full. Else prove '..UptoSaid'. A law counts once. -/
mutual
def uptoBulk {H : Type} : DataW H → Nat
  | .lit (.string bytes) => bytes.length + 1
  | .lit _ => 1
  | .nil => 1
  | .ptr d => uptoBulk d + 1
  | .slice elems spare => uptoBulkAll elems + uptoBulkAll spare + 1
  | .agg parts => uptoBulkAll parts + 1
  | .iface _ d => uptoBulk d + 1
  | .map entries => uptoBulkEntries entries + 1
  | .held _ => 1
def uptoBulkAll {H : Type} : List (DataW H) → Nat
  | [] => 0
  | d :: r => uptoBulk d + uptoBulkAll r
def uptoBulkEntries {H : Type} : List (Lit × DataW H) → Nat
  | [] => 0
  | x :: r => uptoBulkEntry x + uptoBulkEntries r
def uptoBulkEntry {H : Type} : Lit × DataW H → Nat
  | (.string bytes, d) => bytes.length + uptoBulk d + 1
  | (_, d) => uptoBulk d + 1
 end
def uptoSmall : (H : Type) → List (DataW H) → Bool := fun _ ds => decide (uptoBulkAll ds ≤ 1048576)
def OpenSpec.upto (s : _root_.Go.ChangeSpec) : _root_.Go.OpenSpec := { _root_.Go.OpenSpec.ofChange s with cond := some uptoSmall }

/-- 'partkeep.ViewMeets', WHERE WHAT IT READS IS OF BULK AT MOST 1048576: true; the input reads as it did. -/
def viewMeetsUptoRow : OpenClaim := { program := "ytofccajdoekjgaa", sum := "f54e3b0cadd50b4c91797a4b7b604117ffe619bf93994e1cbccfc1f485be62c0", func := "partsong/partkeep.ViewMeets", spec := "viewMeets", apart := false, narrowed := true }
def ViewMeetsUptoSaid : Prop := viewMeetsUptoRow.holds Try.pinned (OpenSpec.upto viewMeetsSpec)

/-- 'partkeep.ViewSplit', WHERE WHAT IT READS IS OF BULK AT MOST 1048576: true; the input reads as it did. -/
def viewSplitUptoRow : OpenClaim := { program := "ytofccajdoekjgaa", sum := "f54e3b0cadd50b4c91797a4b7b604117ffe619bf93994e1cbccfc1f485be62c0", func := "partsong/partkeep.ViewSplit", spec := "viewSplit", apart := false, narrowed := true }
def ViewSplitUptoSaid : Prop := viewSplitUptoRow.holds Try.pinned (OpenSpec.upto viewSplitSpec)

/-- 'partkeep.ViewLine', WHERE WHAT IT READS IS OF BULK AT MOST 1048576: true; the input reads as it did. -/
def viewLineUptoRow : OpenClaim := { program := "ytofccajdoekjgaa", sum := "f54e3b0cadd50b4c91797a4b7b604117ffe619bf93994e1cbccfc1f485be62c0", func := "partsong/partkeep.ViewLine", spec := "viewLine", apart := false, narrowed := true }
def ViewLineUptoSaid : Prop := viewLineUptoRow.holds Try.pinned (OpenSpec.upto viewLineSpec)

/-- 'partkeep.ViewNext', WHERE WHAT IT READS IS OF BULK AT MOST 1048576: true; the input reads as it did. -/
def viewNextUptoRow : OpenClaim := { program := "ytofccajdoekjgaa", sum := "f54e3b0cadd50b4c91797a4b7b604117ffe619bf93994e1cbccfc1f485be62c0", func := "partsong/partkeep.ViewNext", spec := "viewNext", apart := false, narrowed := true }
def ViewNextUptoSaid : Prop := viewNextUptoRow.holds Try.pinned (OpenSpec.upto viewNextSpec)

/-- 'partkeep.PulseLead', WHERE WHAT IT READS IS OF BULK AT MOST 1048576: true; the input reads as it did. -/
def pulseLeadUptoRow : OpenClaim := { program := "ytofccajdoekjgaa", sum := "f54e3b0cadd50b4c91797a4b7b604117ffe619bf93994e1cbccfc1f485be62c0", func := "partsong/partkeep.PulseLead", spec := "pulseLead", apart := false, narrowed := true }
def PulseLeadUptoSaid : Prop := pulseLeadUptoRow.holds Try.pinned (OpenSpec.upto pulseLeadSpec)

/-- 'partkeep.PulseDead', WHERE WHAT IT READS IS OF BULK AT MOST 1048576: true; the input reads as it did. -/
def pulseDeadUptoRow : OpenClaim := { program := "ytofccajdoekjgaa", sum := "f54e3b0cadd50b4c91797a4b7b604117ffe619bf93994e1cbccfc1f485be62c0", func := "partsong/partkeep.PulseDead", spec := "pulseDead", apart := false, narrowed := true }
def PulseDeadUptoSaid : Prop := pulseDeadUptoRow.holds Try.pinned (OpenSpec.upto pulseDeadSpec)

/-- 'partkeep.PulseFew', WHERE WHAT IT READS IS OF BULK AT MOST 1048576: true; the input reads as it did. -/
def pulseFewUptoRow : OpenClaim := { program := "ytofccajdoekjgaa", sum := "f54e3b0cadd50b4c91797a4b7b604117ffe619bf93994e1cbccfc1f485be62c0", func := "partsong/partkeep.PulseFew", spec := "pulseFew", apart := false, narrowed := true }
def PulseFewUptoSaid : Prop := pulseFewUptoRow.holds Try.pinned (OpenSpec.upto pulseFewSpec)

end Rows
end Go.Proofs.Ytofccajdoekjgaa
