/-
  No cell of these rows narrows 'for every input' (looked for: loops, veiled, ifaces, maps, wideKeys, modest, calm, conditions, laid).
  DERIVED. THE GIVEN ROWS OF THIS SEAT. 5 by the template 'for every input the law returns true; each argument reads behind the call as it read before'; 0 by the template 'total and deterministic' (their statements: YtaachifkgcdeoaaTotals.lean).
  GIVEN WITH THE SEED: the statements are not yours to turn. If you find one false, say at which input.
  Laid BY PROGRAM, IN A SANDBOX (cutbox-rows.mjs): the forced cells as the released guide's own fill.sh prints them over the translation 0077e2383457de45… (all of the seat's roots in one cut). By AI agents, Wed Nov 11 2026. No macro, syntax, notation, axiom, sorry.
-/
import Derived.Test.YtaachifkgcdeoaaChecked
import GoSem.Claim
import GoSem.ClaimJoined
import GoSem.ClaimMapViews
import Derived.JoinedTies
import Derived.KernelRfl
namespace Go.Proofs.Ytaachifkgcdeoaa
/- THE CELL 'sum', in the pinned program and in every row, IS THE sha256 OF THE DUMP (.gsa) THAT YtaachifkgcdeoaaProg.lean LOADS. Nothing in Lean hashes anything: it is a label: what it is worth is what the hold of that sum in a sandbox is worth. -/
noncomputable def Try.pinned : Pinned := { name := "ytaachifkgcdeoaa", sum := "0077e2383457de4536d8c1b5d5b823ed15eaaa22d72ef31999e8510bd818ea35", checked := Try.checked }
namespace Rows
def none {H : Type} : Left H := { results := [], args := [] }

/-- 'partkeep.LatLaws': WHATEVER THE INPUT: true; the input reads as it did. -/
def latLawsSpec : ChangeSpec := { name := "latLaws", fn := fun _ => fun
  | [d1, d2, d3, d4] => { results := [.lit (.bool true)], args := [d1, d2, d3, d4] }
  | _ => none }
def latLawsRow : OpenClaim := { program := "ytaachifkgcdeoaa", sum := "0077e2383457de4536d8c1b5d5b823ed15eaaa22d72ef31999e8510bd818ea35", func := "partsong/partkeep.LatLaws", spec := "latLaws", unfollowed := true, recurses := true, apart := false }
def LatLawsSaid : Prop := latLawsRow.holds Try.pinned (OpenSpec.ofChange latLawsSpec)

/-- ITS FALSE NEIGHBOUR: 'it returns false'. Refute it at one input. -/
def latLawsWrong : ChangeSpec := { name := "latLaws", fn := fun _ => fun
  | [d1, d2, d3, d4] => { results := [.lit (.bool false)], args := [d1, d2, d3, d4] }
  | _ => none }
def LatLawsWrongFalsely : Prop := latLawsRow.holds Try.pinned (OpenSpec.ofChange latLawsWrong)

/-- 'partkeep.LatFirm': WHATEVER THE INPUT: true; the input reads as it did. -/
def latFirmSpec : ChangeSpec := { name := "latFirm", fn := fun _ => fun
  | [d] => { results := [.lit (.bool true)], args := [d] }
  | _ => none }
def latFirmRow : OpenClaim := { program := "ytaachifkgcdeoaa", sum := "0077e2383457de4536d8c1b5d5b823ed15eaaa22d72ef31999e8510bd818ea35", func := "partsong/partkeep.LatFirm", spec := "latFirm", apart := false }
def LatFirmSaid : Prop := latFirmRow.holds Try.pinned (OpenSpec.ofChange latFirmSpec)

/-- ITS FALSE NEIGHBOUR: 'it returns false'. Refute it at one input. -/
def latFirmWrong : ChangeSpec := { name := "latFirm", fn := fun _ => fun
  | [d] => { results := [.lit (.bool false)], args := [d] }
  | _ => none }
def LatFirmWrongFalsely : Prop := latFirmRow.holds Try.pinned (OpenSpec.ofChange latFirmWrong)

/-- 'partkeep.LatStill': WHATEVER THE INPUT: true; the input reads as it did. -/
def latStillSpec : ChangeSpec := { name := "latStill", fn := fun _ => fun
  | [d1, d2] => { results := [.lit (.bool true)], args := [d1, d2] }
  | _ => none }
def latStillRow : OpenClaim := { program := "ytaachifkgcdeoaa", sum := "0077e2383457de4536d8c1b5d5b823ed15eaaa22d72ef31999e8510bd818ea35", func := "partsong/partkeep.LatStill", spec := "latStill", apart := false }
def LatStillSaid : Prop := latStillRow.holds Try.pinned (OpenSpec.ofChange latStillSpec)

/-- ITS FALSE NEIGHBOUR: 'it returns false'. Refute it at one input. -/
def latStillWrong : ChangeSpec := { name := "latStill", fn := fun _ => fun
  | [d1, d2] => { results := [.lit (.bool false)], args := [d1, d2] }
  | _ => none }
def LatStillWrongFalsely : Prop := latStillRow.holds Try.pinned (OpenSpec.ofChange latStillWrong)

/-- 'partkeep.LatSizes': WHATEVER THE INPUT: true; the input reads as it did. -/
def latSizesSpec : ChangeSpec := { name := "latSizes", fn := fun _ => fun
  | [d1, d2, d3] => { results := [.lit (.bool true)], args := [d1, d2, d3] }
  | _ => none }
def latSizesRow : OpenClaim := { program := "ytaachifkgcdeoaa", sum := "0077e2383457de4536d8c1b5d5b823ed15eaaa22d72ef31999e8510bd818ea35", func := "partsong/partkeep.LatSizes", spec := "latSizes", apart := false }
def LatSizesSaid : Prop := latSizesRow.holds Try.pinned (OpenSpec.ofChange latSizesSpec)

/-- ITS FALSE NEIGHBOUR: 'it returns false'. Refute it at one input. -/
def latSizesWrong : ChangeSpec := { name := "latSizes", fn := fun _ => fun
  | [d1, d2, d3] => { results := [.lit (.bool false)], args := [d1, d2, d3] }
  | _ => none }
def LatSizesWrongFalsely : Prop := latSizesRow.holds Try.pinned (OpenSpec.ofChange latSizesWrong)

/-- 'partkeep.LatBack': WHATEVER THE INPUT: true; the input reads as it did. -/
def latBackSpec : ChangeSpec := { name := "latBack", fn := fun _ => fun
  | [d] => { results := [.lit (.bool true)], args := [d] }
  | _ => none }
def latBackRow : OpenClaim := { program := "ytaachifkgcdeoaa", sum := "0077e2383457de4536d8c1b5d5b823ed15eaaa22d72ef31999e8510bd818ea35", func := "partsong/partkeep.LatBack", spec := "latBack", apart := false }
def LatBackSaid : Prop := latBackRow.holds Try.pinned (OpenSpec.ofChange latBackSpec)

/-- ITS FALSE NEIGHBOUR: 'it returns false'. Refute it at one input. -/
def latBackWrong : ChangeSpec := { name := "latBack", fn := fun _ => fun
  | [d] => { results := [.lit (.bool false)], args := [d] }
  | _ => none }
def LatBackWrongFalsely : Prop := latBackRow.holds Try.pinned (OpenSpec.ofChange latBackWrong)

/- THE SECOND FORM. 'bulk': how many values and letters a reading holds, each counted each time it is reached (what is shared counts as often as it is met; a slice's spare places count too). A statement '..UptoSaid' is the law's where the arguments, and the package variables that the reading takes, are together of bulk at most 1048576: NARROWER than '..Said'. Prove '..Said' where nothing that the law and all that it calls make is longer than what came in: it says more and counts as full. Else prove '..UptoSaid'. A law counts once. -/
mutual
def uptoBulk {H : Type} : DataW H → Nat
  | .lit (.string bytes) => bytes.length + 1
  | .lit _ => 1
  | .nil => 1
  | .ptr d => uptoBulk d + 1
  | .slice elems spare => uptoBulkAll elems + uptoBulkAll spare + 1
  | .agg parts => uptoBulkAll parts + 1
  | .iface _ d => uptoBulk d + 1
  | .map entries => uptoBulkEntries entries + 1
  | .held _ => 1
def uptoBulkAll {H : Type} : List (DataW H) → Nat
  | [] => 0
  | d :: r => uptoBulk d + uptoBulkAll r
def uptoBulkEntries {H : Type} : List (Lit × DataW H) → Nat
  | [] => 0
  | x :: r => uptoBulkEntry x + uptoBulkEntries r
def uptoBulkEntry {H : Type} : Lit × DataW H → Nat
  | (.string bytes, d) => bytes.length + uptoBulk d + 1
  | (_, d) => uptoBulk d + 1
 end
def uptoSmall : (H : Type) → List (DataW H) → Bool := fun _ ds => decide (uptoBulkAll ds ≤ 1048576)
def OpenSpec.upto (s : _root_.Go.ChangeSpec) : _root_.Go.OpenSpec := { _root_.Go.OpenSpec.ofChange s with cond := some uptoSmall }

/-- 'partkeep.LatLaws', WHERE WHAT IT READS IS OF BULK AT MOST 1048576: true; the input reads as it did. -/
def latLawsUptoRow : OpenClaim := { program := "ytaachifkgcdeoaa", sum := "0077e2383457de4536d8c1b5d5b823ed15eaaa22d72ef31999e8510bd818ea35", func := "partsong/partkeep.LatLaws", spec := "latLaws", unfollowed := true, recurses := true, apart := false, narrowed := true }
def LatLawsUptoSaid : Prop := latLawsUptoRow.holds Try.pinned (OpenSpec.upto latLawsSpec)

/-- 'partkeep.LatFirm', WHERE WHAT IT READS IS OF BULK AT MOST 1048576: true; the input reads as it did. -/
def latFirmUptoRow : OpenClaim := { program := "ytaachifkgcdeoaa", sum := "0077e2383457de4536d8c1b5d5b823ed15eaaa22d72ef31999e8510bd818ea35", func := "partsong/partkeep.LatFirm", spec := "latFirm", apart := false, narrowed := true }
def LatFirmUptoSaid : Prop := latFirmUptoRow.holds Try.pinned (OpenSpec.upto latFirmSpec)

/-- 'partkeep.LatStill', WHERE WHAT IT READS IS OF BULK AT MOST 1048576: true; the input reads as it did. -/
def latStillUptoRow : OpenClaim := { program := "ytaachifkgcdeoaa", sum := "0077e2383457de4536d8c1b5d5b823ed15eaaa22d72ef31999e8510bd818ea35", func := "partsong/partkeep.LatStill", spec := "latStill", apart := false, narrowed := true }
def LatStillUptoSaid : Prop := latStillUptoRow.holds Try.pinned (OpenSpec.upto latStillSpec)

/-- 'partkeep.LatSizes', WHERE WHAT IT READS IS OF BULK AT MOST 1048576: true; the input reads as it did. -/
def latSizesUptoRow : OpenClaim := { program := "ytaachifkgcdeoaa", sum := "0077e2383457de4536d8c1b5d5b823ed15eaaa22d72ef31999e8510bd818ea35", func := "partsong/partkeep.LatSizes", spec := "latSizes", apart := false, narrowed := true }
def LatSizesUptoSaid : Prop := latSizesUptoRow.holds Try.pinned (OpenSpec.upto latSizesSpec)

/-- 'partkeep.LatBack', WHERE WHAT IT READS IS OF BULK AT MOST 1048576: true; the input reads as it did. -/
def latBackUptoRow : OpenClaim := { program := "ytaachifkgcdeoaa", sum := "0077e2383457de4536d8c1b5d5b823ed15eaaa22d72ef31999e8510bd818ea35", func := "partsong/partkeep.LatBack", spec := "latBack", apart := false, narrowed := true }
def LatBackUptoSaid : Prop := latBackUptoRow.holds Try.pinned (OpenSpec.upto latBackSpec)

end Rows
end Go.Proofs.Ytaachifkgcdeoaa
