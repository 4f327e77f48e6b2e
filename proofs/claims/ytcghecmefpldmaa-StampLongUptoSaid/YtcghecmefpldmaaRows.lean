/-
  No cell of these rows narrows 'for every input' (looked for: loops, veiled, ifaces, maps, wideKeys, modest, calm, conditions, laid).
  DERIVED. THE GIVEN ROWS OF THIS SEAT. 9 by the template 'for every input the law returns true; each argument reads behind the call as it read before'; 0 by the template 'total and deterministic' (their statements: YtcghecmefpldmaaTotals.lean).
  GIVEN WITH THE SEED: the statements are not yours to turn. If you find one false, say at which input.
  Laid BY PROGRAM, IN A SANDBOX (cutbox-rows.mjs): the forced cells as the released guide's own fill.sh prints them over the translation f6a96d0beb71c11f… (all of the seat's roots in one cut). By AI agents, Wed Nov 11 2026. No macro, syntax, notation, axiom, sorry.
-/
import Derived.Test.YtcghecmefpldmaaChecked
import GoSem.Claim
import GoSem.ClaimJoined
import GoSem.ClaimMapViews
import Derived.JoinedTies
import Derived.KernelRfl
namespace Go.Proofs.Ytcghecmefpldmaa
/- THE CELL 'sum', in the pinned program and in every row, IS THE sha256 OF THE DUMP (.gsa) THAT YtcghecmefpldmaaProg.lean LOADS. Nothing in Lean hashes anything: it is a label: what it is worth is what the hold of that sum in a sandbox is worth. -/
noncomputable def Try.pinned : Pinned := { name := "ytcghecmefpldmaa", sum := "f6a96d0beb71c11fd60ef86bcfc0aef51b79a06463b93661d80b7148aa9ede8e", checked := Try.checked }
namespace Rows
def none {H : Type} : Left H := { results := [], args := [] }

/-- 'partkeep.VectLaws': WHATEVER THE INPUT: true; the input reads as it did. -/
def vectLawsSpec : ChangeSpec := { name := "vectLaws", fn := fun _ => fun
  | [d1, d2, d3] => { results := [.lit (.bool true)], args := [d1, d2, d3] }
  | _ => none }
def vectLawsRow : OpenClaim := { program := "ytcghecmefpldmaa", sum := "f6a96d0beb71c11fd60ef86bcfc0aef51b79a06463b93661d80b7148aa9ede8e", func := "partsong/partkeep.VectLaws", spec := "vectLaws", apart := false }
def VectLawsSaid : Prop := vectLawsRow.holds Try.pinned (OpenSpec.ofChange vectLawsSpec)

/-- ITS FALSE NEIGHBOUR: 'it returns false'. Refute it at one input. -/
def vectLawsWrong : ChangeSpec := { name := "vectLaws", fn := fun _ => fun
  | [d1, d2, d3] => { results := [.lit (.bool false)], args := [d1, d2, d3] }
  | _ => none }
def VectLawsWrongFalsely : Prop := vectLawsRow.holds Try.pinned (OpenSpec.ofChange vectLawsWrong)

/-- 'partkeep.VectTakes': WHATEVER THE INPUT: true; the input reads as it did. -/
def vectTakesSpec : ChangeSpec := { name := "vectTakes", fn := fun _ => fun
  | [d] => { results := [.lit (.bool true)], args := [d] }
  | _ => none }
def vectTakesRow : OpenClaim := { program := "ytcghecmefpldmaa", sum := "f6a96d0beb71c11fd60ef86bcfc0aef51b79a06463b93661d80b7148aa9ede8e", func := "partsong/partkeep.VectTakes", spec := "vectTakes", apart := false }
def VectTakesSaid : Prop := vectTakesRow.holds Try.pinned (OpenSpec.ofChange vectTakesSpec)

/-- ITS FALSE NEIGHBOUR: 'it returns false'. Refute it at one input. -/
def vectTakesWrong : ChangeSpec := { name := "vectTakes", fn := fun _ => fun
  | [d] => { results := [.lit (.bool false)], args := [d] }
  | _ => none }
def VectTakesWrongFalsely : Prop := vectTakesRow.holds Try.pinned (OpenSpec.ofChange vectTakesWrong)

/-- 'partkeep.VectCounts': WHATEVER THE INPUT: true; the input reads as it did. -/
def vectCountsSpec : ChangeSpec := { name := "vectCounts", fn := fun _ => fun
  | [d] => { results := [.lit (.bool true)], args := [d] }
  | _ => none }
def vectCountsRow : OpenClaim := { program := "ytcghecmefpldmaa", sum := "f6a96d0beb71c11fd60ef86bcfc0aef51b79a06463b93661d80b7148aa9ede8e", func := "partsong/partkeep.VectCounts", spec := "vectCounts", apart := false }
def VectCountsSaid : Prop := vectCountsRow.holds Try.pinned (OpenSpec.ofChange vectCountsSpec)

/-- ITS FALSE NEIGHBOUR: 'it returns false'. Refute it at one input. -/
def vectCountsWrong : ChangeSpec := { name := "vectCounts", fn := fun _ => fun
  | [d] => { results := [.lit (.bool false)], args := [d] }
  | _ => none }
def VectCountsWrongFalsely : Prop := vectCountsRow.holds Try.pinned (OpenSpec.ofChange vectCountsWrong)

/-- 'partkeep.VectTells': WHATEVER THE INPUT: true; the input reads as it did. -/
def vectTellsSpec : ChangeSpec := { name := "vectTells", fn := fun _ => fun
  | [d] => { results := [.lit (.bool true)], args := [d] }
  | _ => none }
def vectTellsRow : OpenClaim := { program := "ytcghecmefpldmaa", sum := "f6a96d0beb71c11fd60ef86bcfc0aef51b79a06463b93661d80b7148aa9ede8e", func := "partsong/partkeep.VectTells", spec := "vectTells", apart := false }
def VectTellsSaid : Prop := vectTellsRow.holds Try.pinned (OpenSpec.ofChange vectTellsSpec)

/-- ITS FALSE NEIGHBOUR: 'it returns false'. Refute it at one input. -/
def vectTellsWrong : ChangeSpec := { name := "vectTells", fn := fun _ => fun
  | [d] => { results := [.lit (.bool false)], args := [d] }
  | _ => none }
def VectTellsWrongFalsely : Prop := vectTellsRow.holds Try.pinned (OpenSpec.ofChange vectTellsWrong)

/-- 'partkeep.StampBound': WHATEVER THE INPUT: true; the input reads as it did. -/
def stampBoundSpec : ChangeSpec := { name := "stampBound", fn := fun _ => fun
  | [d1, d2] => { results := [.lit (.bool true)], args := [d1, d2] }
  | _ => none }
def stampBoundRow : OpenClaim := { program := "ytcghecmefpldmaa", sum := "f6a96d0beb71c11fd60ef86bcfc0aef51b79a06463b93661d80b7148aa9ede8e", func := "partsong/partkeep.StampBound", spec := "stampBound", apart := false }
def StampBoundSaid : Prop := stampBoundRow.holds Try.pinned (OpenSpec.ofChange stampBoundSpec)

/-- ITS FALSE NEIGHBOUR: 'it returns false'. Refute it at one input. -/
def stampBoundWrong : ChangeSpec := { name := "stampBound", fn := fun _ => fun
  | [d1, d2] => { results := [.lit (.bool false)], args := [d1, d2] }
  | _ => none }
def StampBoundWrongFalsely : Prop := stampBoundRow.holds Try.pinned (OpenSpec.ofChange stampBoundWrong)

/-- 'partkeep.StampAhead': WHATEVER THE INPUT: true; the input reads as it did. -/
def stampAheadSpec : ChangeSpec := { name := "stampAhead", fn := fun _ => fun
  | [d] => { results := [.lit (.bool true)], args := [d] }
  | _ => none }
def stampAheadRow : OpenClaim := { program := "ytcghecmefpldmaa", sum := "f6a96d0beb71c11fd60ef86bcfc0aef51b79a06463b93661d80b7148aa9ede8e", func := "partsong/partkeep.StampAhead", spec := "stampAhead", apart := false }
def StampAheadSaid : Prop := stampAheadRow.holds Try.pinned (OpenSpec.ofChange stampAheadSpec)

/-- ITS FALSE NEIGHBOUR: 'it returns false'. Refute it at one input. -/
def stampAheadWrong : ChangeSpec := { name := "stampAhead", fn := fun _ => fun
  | [d] => { results := [.lit (.bool false)], args := [d] }
  | _ => none }
def StampAheadWrongFalsely : Prop := stampAheadRow.holds Try.pinned (OpenSpec.ofChange stampAheadWrong)

/-- 'partkeep.StampFront': WHATEVER THE INPUT: true; the input reads as it did. -/
def stampFrontSpec : ChangeSpec := { name := "stampFront", fn := fun _ => fun
  | [d1, d2] => { results := [.lit (.bool true)], args := [d1, d2] }
  | _ => none }
def stampFrontRow : OpenClaim := { program := "ytcghecmefpldmaa", sum := "f6a96d0beb71c11fd60ef86bcfc0aef51b79a06463b93661d80b7148aa9ede8e", func := "partsong/partkeep.StampFront", spec := "stampFront", apart := false }
def StampFrontSaid : Prop := stampFrontRow.holds Try.pinned (OpenSpec.ofChange stampFrontSpec)

/-- ITS FALSE NEIGHBOUR: 'it returns false'. Refute it at one input. -/
def stampFrontWrong : ChangeSpec := { name := "stampFront", fn := fun _ => fun
  | [d1, d2] => { results := [.lit (.bool false)], args := [d1, d2] }
  | _ => none }
def StampFrontWrongFalsely : Prop := stampFrontRow.holds Try.pinned (OpenSpec.ofChange stampFrontWrong)

/-- 'partkeep.StampLong': WHATEVER THE INPUT: true; the input reads as it did. -/
def stampLongSpec : ChangeSpec := { name := "stampLong", fn := fun _ => fun
  | [d] => { results := [.lit (.bool true)], args := [d] }
  | _ => none }
def stampLongRow : OpenClaim := { program := "ytcghecmefpldmaa", sum := "f6a96d0beb71c11fd60ef86bcfc0aef51b79a06463b93661d80b7148aa9ede8e", func := "partsong/partkeep.StampLong", spec := "stampLong", unfollowed := true, recurses := true, apart := false }
def StampLongSaid : Prop := stampLongRow.holds Try.pinned (OpenSpec.ofChange stampLongSpec)

/-- ITS FALSE NEIGHBOUR: 'it returns false'. Refute it at one input. -/
def stampLongWrong : ChangeSpec := { name := "stampLong", fn := fun _ => fun
  | [d] => { results := [.lit (.bool false)], args := [d] }
  | _ => none }
def StampLongWrongFalsely : Prop := stampLongRow.holds Try.pinned (OpenSpec.ofChange stampLongWrong)

/-- 'partkeep.StampTotal': WHATEVER THE INPUT: true; the input reads as it did. -/
def stampTotalSpec : ChangeSpec := { name := "stampTotal", fn := fun _ => fun
  | [d] => { results := [.lit (.bool true)], args := [d] }
  | _ => none }
def stampTotalRow : OpenClaim := { program := "ytcghecmefpldmaa", sum := "f6a96d0beb71c11fd60ef86bcfc0aef51b79a06463b93661d80b7148aa9ede8e", func := "partsong/partkeep.StampTotal", spec := "stampTotal", unfollowed := true, recurses := true, apart := false }
def StampTotalSaid : Prop := stampTotalRow.holds Try.pinned (OpenSpec.ofChange stampTotalSpec)

/-- ITS FALSE NEIGHBOUR: 'it returns false'. Refute it at one input. -/
def stampTotalWrong : ChangeSpec := { name := "stampTotal", fn := fun _ => fun
  | [d] => { results := [.lit (.bool false)], args := [d] }
  | _ => none }
def StampTotalWrongFalsely : Prop := stampTotalRow.holds Try.pinned (OpenSpec.ofChange stampTotalWrong)

/- THE SECOND FORM. 'bulk': how many values and letters a reading holds, each counted each time it is reached (what is shared counts as often as it is met; a slice's spare places count too). A statement '..UptoSaid' is the law's where the arguments, and the package variables that the reading takes, are together of bulk at most 1048576: NARROWER than '..Said'. Prove '..Said' where nothing that the law and all that it calls make is longer than what came in: it says more and counts as full. Else prove '..UptoSaid'. A law counts once. -/
mutual
def uptoBulk {H : Type} : DataW H → Nat
  | .lit (.string bytes) => bytes.length + 1
  | .lit _ => 1
  | .nil => 1
  | .ptr d => uptoBulk d + 1
  | .slice elems spare => uptoBulkAll elems + uptoBulkAll spare + 1
  | .agg parts => uptoBulkAll parts + 1
  | .iface _ d => uptoBulk d + 1
  | .map entries => uptoBulkEntries entries + 1
  | .held _ => 1
def uptoBulkAll {H : Type} : List (DataW H) → Nat
  | [] => 0
  | d :: r => uptoBulk d + uptoBulkAll r
def uptoBulkEntries {H : Type} : List (Lit × DataW H) → Nat
  | [] => 0
  | x :: r => uptoBulkEntry x + uptoBulkEntries r
def uptoBulkEntry {H : Type} : Lit × DataW H → Nat
  | (.string bytes, d) => bytes.length + uptoBulk d + 1
  | (_, d) => uptoBulk d + 1
 end
def uptoSmall : (H : Type) → List (DataW H) → Bool := fun _ ds => decide (uptoBulkAll ds ≤ 1048576)
def OpenSpec.upto (s : _root_.Go.ChangeSpec) : _root_.Go.OpenSpec := { _root_.Go.OpenSpec.ofChange s with cond := some uptoSmall }

/-- 'partkeep.VectLaws', WHERE WHAT IT READS IS OF BULK AT MOST 1048576: true; the input reads as it did. -/
def vectLawsUptoRow : OpenClaim := { program := "ytcghecmefpldmaa", sum := "f6a96d0beb71c11fd60ef86bcfc0aef51b79a06463b93661d80b7148aa9ede8e", func := "partsong/partkeep.VectLaws", spec := "vectLaws", apart := false, narrowed := true }
def VectLawsUptoSaid : Prop := vectLawsUptoRow.holds Try.pinned (OpenSpec.upto vectLawsSpec)

/-- 'partkeep.VectTakes', WHERE WHAT IT READS IS OF BULK AT MOST 1048576: true; the input reads as it did. -/
def vectTakesUptoRow : OpenClaim := { program := "ytcghecmefpldmaa", sum := "f6a96d0beb71c11fd60ef86bcfc0aef51b79a06463b93661d80b7148aa9ede8e", func := "partsong/partkeep.VectTakes", spec := "vectTakes", apart := false, narrowed := true }
def VectTakesUptoSaid : Prop := vectTakesUptoRow.holds Try.pinned (OpenSpec.upto vectTakesSpec)

/-- 'partkeep.VectCounts', WHERE WHAT IT READS IS OF BULK AT MOST 1048576: true; the input reads as it did. -/
def vectCountsUptoRow : OpenClaim := { program := "ytcghecmefpldmaa", sum := "f6a96d0beb71c11fd60ef86bcfc0aef51b79a06463b93661d80b7148aa9ede8e", func := "partsong/partkeep.VectCounts", spec := "vectCounts", apart := false, narrowed := true }
def VectCountsUptoSaid : Prop := vectCountsUptoRow.holds Try.pinned (OpenSpec.upto vectCountsSpec)

/-- 'partkeep.VectTells', WHERE WHAT IT READS IS OF BULK AT MOST 1048576: true; the input reads as it did. -/
def vectTellsUptoRow : OpenClaim := { program := "ytcghecmefpldmaa", sum := "f6a96d0beb71c11fd60ef86bcfc0aef51b79a06463b93661d80b7148aa9ede8e", func := "partsong/partkeep.VectTells", spec := "vectTells", apart := false, narrowed := true }
def VectTellsUptoSaid : Prop := vectTellsUptoRow.holds Try.pinned (OpenSpec.upto vectTellsSpec)

/-- 'partkeep.StampBound', WHERE WHAT IT READS IS OF BULK AT MOST 1048576: true; the input reads as it did. -/
def stampBoundUptoRow : OpenClaim := { program := "ytcghecmefpldmaa", sum := "f6a96d0beb71c11fd60ef86bcfc0aef51b79a06463b93661d80b7148aa9ede8e", func := "partsong/partkeep.StampBound", spec := "stampBound", apart := false, narrowed := true }
def StampBoundUptoSaid : Prop := stampBoundUptoRow.holds Try.pinned (OpenSpec.upto stampBoundSpec)

/-- 'partkeep.StampAhead', WHERE WHAT IT READS IS OF BULK AT MOST 1048576: true; the input reads as it did. -/
def stampAheadUptoRow : OpenClaim := { program := "ytcghecmefpldmaa", sum := "f6a96d0beb71c11fd60ef86bcfc0aef51b79a06463b93661d80b7148aa9ede8e", func := "partsong/partkeep.StampAhead", spec := "stampAhead", apart := false, narrowed := true }
def StampAheadUptoSaid : Prop := stampAheadUptoRow.holds Try.pinned (OpenSpec.upto stampAheadSpec)

/-- 'partkeep.StampFront', WHERE WHAT IT READS IS OF BULK AT MOST 1048576: true; the input reads as it did. -/
def stampFrontUptoRow : OpenClaim := { program := "ytcghecmefpldmaa", sum := "f6a96d0beb71c11fd60ef86bcfc0aef51b79a06463b93661d80b7148aa9ede8e", func := "partsong/partkeep.StampFront", spec := "stampFront", apart := false, narrowed := true }
def StampFrontUptoSaid : Prop := stampFrontUptoRow.holds Try.pinned (OpenSpec.upto stampFrontSpec)

/-- 'partkeep.StampLong', WHERE WHAT IT READS IS OF BULK AT MOST 1048576: true; the input reads as it did. -/
def stampLongUptoRow : OpenClaim := { program := "ytcghecmefpldmaa", sum := "f6a96d0beb71c11fd60ef86bcfc0aef51b79a06463b93661d80b7148aa9ede8e", func := "partsong/partkeep.StampLong", spec := "stampLong", unfollowed := true, recurses := true, apart := false, narrowed := true }
def StampLongUptoSaid : Prop := stampLongUptoRow.holds Try.pinned (OpenSpec.upto stampLongSpec)

/-- 'partkeep.StampTotal', WHERE WHAT IT READS IS OF BULK AT MOST 1048576: true; the input reads as it did. -/
def stampTotalUptoRow : OpenClaim := { program := "ytcghecmefpldmaa", sum := "f6a96d0beb71c11fd60ef86bcfc0aef51b79a06463b93661d80b7148aa9ede8e", func := "partsong/partkeep.StampTotal", spec := "stampTotal", unfollowed := true, recurses := true, apart := false, narrowed := true }
def StampTotalUptoSaid : Prop := stampTotalUptoRow.holds Try.pinned (OpenSpec.upto stampTotalSpec)

end Rows
end Go.Proofs.Ytcghecmefpldmaa
