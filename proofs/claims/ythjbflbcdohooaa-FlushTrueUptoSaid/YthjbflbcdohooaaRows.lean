/-
  No cell of these rows narrows 'for every input' (looked for: loops, veiled, ifaces, maps, wideKeys, modest, calm, conditions, laid).
  DERIVED. THE GIVEN ROWS OF THIS SEAT. 4 by the template 'for every input the law returns true; each argument reads behind the call as it read before'; 0 by the template 'total and deterministic' (their statements: YthjbflbcdohooaaTotals.lean).
  GIVEN WITH THE SEED: the statements are not yours to turn. If you find one false, say at which input.
  Laid BY PROGRAM, IN A SANDBOX (cutbox-rows.mjs): the forced cells as the released guide's own fill.sh prints them over the translation 6ac176d6a6a72d20… (all of the seat's roots in one cut). By AI agents, Wed Nov 11 2026. No macro, syntax, notation, axiom, sorry.
-/
import Derived.Test.YthjbflbcdohooaaChecked
import GoSem.Claim
import GoSem.ClaimJoined
import GoSem.ClaimMapViews
import Derived.JoinedTies
import Derived.KernelRfl
namespace Go.Proofs.Ythjbflbcdohooaa
/- THE CELL 'sum', in the pinned program and in every row, IS THE sha256 OF THE DUMP (.gsa) THAT YthjbflbcdohooaaProg.lean LOADS. Nothing in Lean hashes anything: it is a label: what it is worth is what the hold of that sum in a sandbox is worth. -/
noncomputable def Try.pinned : Pinned := { name := "ythjbflbcdohooaa", sum := "6ac176d6a6a72d200ca5e3a0b75b26ae0fdb6aca35c185d6674d368b62617880", checked := Try.checked }
namespace Rows
def none {H : Type} : Left H := { results := [], args := [] }

/-- 'partkeep.FlushTrue': WHATEVER THE INPUT: true; the input reads as it did. -/
def flushTrueSpec : ChangeSpec := { name := "flushTrue", fn := fun _ => fun
  | [d1, d2] => { results := [.lit (.bool true)], args := [d1, d2] }
  | _ => none }
def flushTrueRow : OpenClaim := { program := "ythjbflbcdohooaa", sum := "6ac176d6a6a72d200ca5e3a0b75b26ae0fdb6aca35c185d6674d368b62617880", func := "partsong/partkeep.FlushTrue", spec := "flushTrue", apart := false }
def FlushTrueSaid : Prop := flushTrueRow.holds Try.pinned (OpenSpec.ofChange flushTrueSpec)

/-- ITS FALSE NEIGHBOUR: 'it returns false'. Refute it at one input. -/
def flushTrueWrong : ChangeSpec := { name := "flushTrue", fn := fun _ => fun
  | [d1, d2] => { results := [.lit (.bool false)], args := [d1, d2] }
  | _ => none }
def FlushTrueWrongFalsely : Prop := flushTrueRow.holds Try.pinned (OpenSpec.ofChange flushTrueWrong)

/-- 'partkeep.FlushKeeps': WHATEVER THE INPUT: true; the input reads as it did. -/
def flushKeepsSpec : ChangeSpec := { name := "flushKeeps", fn := fun _ => fun
  | [d1, d2, d3] => { results := [.lit (.bool true)], args := [d1, d2, d3] }
  | _ => none }
def flushKeepsRow : OpenClaim := { program := "ythjbflbcdohooaa", sum := "6ac176d6a6a72d200ca5e3a0b75b26ae0fdb6aca35c185d6674d368b62617880", func := "partsong/partkeep.FlushKeeps", spec := "flushKeeps", apart := false }
def FlushKeepsSaid : Prop := flushKeepsRow.holds Try.pinned (OpenSpec.ofChange flushKeepsSpec)

/-- ITS FALSE NEIGHBOUR: 'it returns false'. Refute it at one input. -/
def flushKeepsWrong : ChangeSpec := { name := "flushKeeps", fn := fun _ => fun
  | [d1, d2, d3] => { results := [.lit (.bool false)], args := [d1, d2, d3] }
  | _ => none }
def FlushKeepsWrongFalsely : Prop := flushKeepsRow.holds Try.pinned (OpenSpec.ofChange flushKeepsWrong)

/-- 'partkeep.FlushOwn': WHATEVER THE INPUT: true; the input reads as it did. -/
def flushOwnSpec : ChangeSpec := { name := "flushOwn", fn := fun _ => fun
  | [d1, d2, d3] => { results := [.lit (.bool true)], args := [d1, d2, d3] }
  | _ => none }
def flushOwnRow : OpenClaim := { program := "ythjbflbcdohooaa", sum := "6ac176d6a6a72d200ca5e3a0b75b26ae0fdb6aca35c185d6674d368b62617880", func := "partsong/partkeep.FlushOwn", spec := "flushOwn", apart := false }
def FlushOwnSaid : Prop := flushOwnRow.holds Try.pinned (OpenSpec.ofChange flushOwnSpec)

/-- ITS FALSE NEIGHBOUR: 'it returns false'. Refute it at one input. -/
def flushOwnWrong : ChangeSpec := { name := "flushOwn", fn := fun _ => fun
  | [d1, d2, d3] => { results := [.lit (.bool false)], args := [d1, d2, d3] }
  | _ => none }
def FlushOwnWrongFalsely : Prop := flushOwnRow.holds Try.pinned (OpenSpec.ofChange flushOwnWrong)

/-- 'partkeep.FlushSame': WHATEVER THE INPUT: true; the input reads as it did. -/
def flushSameSpec : ChangeSpec := { name := "flushSame", fn := fun _ => fun
  | [d1, d2] => { results := [.lit (.bool true)], args := [d1, d2] }
  | _ => none }
def flushSameRow : OpenClaim := { program := "ythjbflbcdohooaa", sum := "6ac176d6a6a72d200ca5e3a0b75b26ae0fdb6aca35c185d6674d368b62617880", func := "partsong/partkeep.FlushSame", spec := "flushSame", recurses := true, apart := false }
def FlushSameSaid : Prop := flushSameRow.holds Try.pinned (OpenSpec.ofChange flushSameSpec)

/-- ITS FALSE NEIGHBOUR: 'it returns false'. Refute it at one input. -/
def flushSameWrong : ChangeSpec := { name := "flushSame", fn := fun _ => fun
  | [d1, d2] => { results := [.lit (.bool false)], args := [d1, d2] }
  | _ => none }
def FlushSameWrongFalsely : Prop := flushSameRow.holds Try.pinned (OpenSpec.ofChange flushSameWrong)

/- THE SECOND FORM. 'bulk': how many values and letters a reading holds, each counted each time it is reached (what is shared counts as often as it is met; a slice's spare places count too). A statement '..UptoSaid' is the law's where the arguments, and the package variables that the reading takes, are together of bulk at most 1048576: NARROWER than '..Said'. Prove '..Said' where nothing that the law and all that it calls make is longer than what came in: it says more and counts as full. Else prove '..UptoSaid'. A law counts once. -/
mutual
def uptoBulk {H : Type} : DataW H → Nat
  | .lit (.string bytes) => bytes.length + 1
  | .lit _ => 1
  | .nil => 1
  | .ptr d => uptoBulk d + 1
  | .slice elems spare => uptoBulkAll elems + uptoBulkAll spare + 1
  | .agg parts => uptoBulkAll parts + 1
  | .iface _ d => uptoBulk d + 1
  | .map entries => uptoBulkEntries entries + 1
  | .held _ => 1
def uptoBulkAll {H : Type} : List (DataW H) → Nat
  | [] => 0
  | d :: r => uptoBulk d + uptoBulkAll r
def uptoBulkEntries {H : Type} : List (Lit × DataW H) → Nat
  | [] => 0
  | x :: r => uptoBulkEntry x + uptoBulkEntries r
def uptoBulkEntry {H : Type} : Lit × DataW H → Nat
  | (.string bytes, d) => bytes.length + uptoBulk d + 1
  | (_, d) => uptoBulk d + 1
 end
def uptoSmall : (H : Type) → List (DataW H) → Bool := fun _ ds => decide (uptoBulkAll ds ≤ 1048576)
def OpenSpec.upto (s : _root_.Go.ChangeSpec) : _root_.Go.OpenSpec := { _root_.Go.OpenSpec.ofChange s with cond := some uptoSmall }

/-- 'partkeep.FlushTrue', WHERE WHAT IT READS IS OF BULK AT MOST 1048576: true; the input reads as it did. -/
def flushTrueUptoRow : OpenClaim := { program := "ythjbflbcdohooaa", sum := "6ac176d6a6a72d200ca5e3a0b75b26ae0fdb6aca35c185d6674d368b62617880", func := "partsong/partkeep.FlushTrue", spec := "flushTrue", apart := false, narrowed := true }
def FlushTrueUptoSaid : Prop := flushTrueUptoRow.holds Try.pinned (OpenSpec.upto flushTrueSpec)

/-- 'partkeep.FlushKeeps', WHERE WHAT IT READS IS OF BULK AT MOST 1048576: true; the input reads as it did. -/
def flushKeepsUptoRow : OpenClaim := { program := "ythjbflbcdohooaa", sum := "6ac176d6a6a72d200ca5e3a0b75b26ae0fdb6aca35c185d6674d368b62617880", func := "partsong/partkeep.FlushKeeps", spec := "flushKeeps", apart := false, narrowed := true }
def FlushKeepsUptoSaid : Prop := flushKeepsUptoRow.holds Try.pinned (OpenSpec.upto flushKeepsSpec)

/-- 'partkeep.FlushOwn', WHERE WHAT IT READS IS OF BULK AT MOST 1048576: true; the input reads as it did. -/
def flushOwnUptoRow : OpenClaim := { program := "ythjbflbcdohooaa", sum := "6ac176d6a6a72d200ca5e3a0b75b26ae0fdb6aca35c185d6674d368b62617880", func := "partsong/partkeep.FlushOwn", spec := "flushOwn", apart := false, narrowed := true }
def FlushOwnUptoSaid : Prop := flushOwnUptoRow.holds Try.pinned (OpenSpec.upto flushOwnSpec)

/-- 'partkeep.FlushSame', WHERE WHAT IT READS IS OF BULK AT MOST 1048576: true; the input reads as it did. -/
def flushSameUptoRow : OpenClaim := { program := "ythjbflbcdohooaa", sum := "6ac176d6a6a72d200ca5e3a0b75b26ae0fdb6aca35c185d6674d368b62617880", func := "partsong/partkeep.FlushSame", spec := "flushSame", recurses := true, apart := false, narrowed := true }
def FlushSameUptoSaid : Prop := flushSameUptoRow.holds Try.pinned (OpenSpec.upto flushSameSpec)

end Rows
end Go.Proofs.Ythjbflbcdohooaa
