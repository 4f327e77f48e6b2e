/-
  No cell of these rows narrows 'for every input' (looked for: loops, veiled, ifaces, maps, wideKeys, modest, calm, conditions, laid).
  DERIVED. THE GIVEN ROWS OF THIS SEAT. 4 by the template 'for every input the law returns true; each argument reads behind the call as it read before'; 0 by the template 'total and deterministic' (their statements: YtikbileeohddjaaTotals.lean).
  GIVEN WITH THE SEED: the statements are not yours to turn. If you find one false, say at which input.
  Laid BY PROGRAM, IN A SANDBOX (cutbox-rows.mjs): the forced cells as the released guide's own fill.sh prints them over the translation f290fcda85c1fa2c… (all of the seat's roots in one cut). By AI agents, Wed Nov 11 2026. No macro, syntax, notation, axiom, sorry.
-/
import Derived.Test.YtikbileeohddjaaChecked
import GoSem.Claim
import GoSem.ClaimJoined
import GoSem.ClaimMapViews
import Derived.JoinedTies
import Derived.KernelRfl
namespace Go.Proofs.Ytikbileeohddjaa
/- THE CELL 'sum', in the pinned program and in every row, IS THE sha256 OF THE DUMP (.gsa) THAT YtikbileeohddjaaProg.lean LOADS. Nothing in Lean hashes anything: it is a label: what it is worth is what the hold of that sum in a sandbox is worth. -/
noncomputable def Try.pinned : Pinned := { name := "ytikbileeohddjaa", sum := "f290fcda85c1fa2c666925245eda42986169c0a34caa2412d82e3abd88eba3f0", checked := Try.checked }
namespace Rows
def none {H : Type} : Left H := { results := [], args := [] }

/-- 'partkeep.MatFirm': WHATEVER THE INPUT: true; the input reads as it did. -/
def matFirmSpec : ChangeSpec := { name := "matFirm", fn := fun _ => fun
  | [d] => { results := [.lit (.bool true)], args := [d] }
  | _ => none }
def matFirmRow : OpenClaim := { program := "ytikbileeohddjaa", sum := "f290fcda85c1fa2c666925245eda42986169c0a34caa2412d82e3abd88eba3f0", func := "partsong/partkeep.MatFirm", spec := "matFirm", apart := false }
def MatFirmSaid : Prop := matFirmRow.holds Try.pinned (OpenSpec.ofChange matFirmSpec)

/-- ITS FALSE NEIGHBOUR: 'it returns false'. Refute it at one input. -/
def matFirmWrong : ChangeSpec := { name := "matFirm", fn := fun _ => fun
  | [d] => { results := [.lit (.bool false)], args := [d] }
  | _ => none }
def MatFirmWrongFalsely : Prop := matFirmRow.holds Try.pinned (OpenSpec.ofChange matFirmWrong)

/-- 'partkeep.MatTrue': WHATEVER THE INPUT: true; the input reads as it did. -/
def matTrueSpec : ChangeSpec := { name := "matTrue", fn := fun _ => fun
  | [d1, d2] => { results := [.lit (.bool true)], args := [d1, d2] }
  | _ => none }
def matTrueRow : OpenClaim := { program := "ytikbileeohddjaa", sum := "f290fcda85c1fa2c666925245eda42986169c0a34caa2412d82e3abd88eba3f0", func := "partsong/partkeep.MatTrue", spec := "matTrue", apart := false }
def MatTrueSaid : Prop := matTrueRow.holds Try.pinned (OpenSpec.ofChange matTrueSpec)

/-- ITS FALSE NEIGHBOUR: 'it returns false'. Refute it at one input. -/
def matTrueWrong : ChangeSpec := { name := "matTrue", fn := fun _ => fun
  | [d1, d2] => { results := [.lit (.bool false)], args := [d1, d2] }
  | _ => none }
def MatTrueWrongFalsely : Prop := matTrueRow.holds Try.pinned (OpenSpec.ofChange matTrueWrong)

/-- 'partkeep.MatRises': WHATEVER THE INPUT: true; the input reads as it did. -/
def matRisesSpec : ChangeSpec := { name := "matRises", fn := fun _ => fun
  | [d1, d2] => { results := [.lit (.bool true)], args := [d1, d2] }
  | _ => none }
def matRisesRow : OpenClaim := { program := "ytikbileeohddjaa", sum := "f290fcda85c1fa2c666925245eda42986169c0a34caa2412d82e3abd88eba3f0", func := "partsong/partkeep.MatRises", spec := "matRises", apart := false }
def MatRisesSaid : Prop := matRisesRow.holds Try.pinned (OpenSpec.ofChange matRisesSpec)

/-- ITS FALSE NEIGHBOUR: 'it returns false'. Refute it at one input. -/
def matRisesWrong : ChangeSpec := { name := "matRises", fn := fun _ => fun
  | [d1, d2] => { results := [.lit (.bool false)], args := [d1, d2] }
  | _ => none }
def MatRisesWrongFalsely : Prop := matRisesRow.holds Try.pinned (OpenSpec.ofChange matRisesWrong)

/-- 'partkeep.MatAll': WHATEVER THE INPUT: true; the input reads as it did. -/
def matAllSpec : ChangeSpec := { name := "matAll", fn := fun _ => fun
  | [d1, d2] => { results := [.lit (.bool true)], args := [d1, d2] }
  | _ => none }
def matAllRow : OpenClaim := { program := "ytikbileeohddjaa", sum := "f290fcda85c1fa2c666925245eda42986169c0a34caa2412d82e3abd88eba3f0", func := "partsong/partkeep.MatAll", spec := "matAll", apart := false }
def MatAllSaid : Prop := matAllRow.holds Try.pinned (OpenSpec.ofChange matAllSpec)

/-- ITS FALSE NEIGHBOUR: 'it returns false'. Refute it at one input. -/
def matAllWrong : ChangeSpec := { name := "matAll", fn := fun _ => fun
  | [d1, d2] => { results := [.lit (.bool false)], args := [d1, d2] }
  | _ => none }
def MatAllWrongFalsely : Prop := matAllRow.holds Try.pinned (OpenSpec.ofChange matAllWrong)

/- THE SECOND FORM. 'bulk': how many values and letters a reading holds, each counted each time it is reached (what is shared counts as often as it is met; a slice's spare places count too). A statement '..UptoSaid' is the law's where the arguments, and the package variables that the reading takes, are together of bulk at most 1048576: NARROWER than '..Said'. Prove '..Said' where nothing that the law and all that it calls make is longer than what came in: it says more and counts as full. Else prove '..UptoSaid'. A law counts once. -/
mutual
def uptoBulk {H : Type} : DataW H → Nat
  | .lit (.string bytes) => bytes.length + 1
  | .lit _ => 1
  | .nil => 1
  | .ptr d => uptoBulk d + 1
  | .slice elems spare => uptoBulkAll elems + uptoBulkAll spare + 1
  | .agg parts => uptoBulkAll parts + 1
  | .iface _ d => uptoBulk d + 1
  | .map entries => uptoBulkEntries entries + 1
  | .held _ => 1
def uptoBulkAll {H : Type} : List (DataW H) → Nat
  | [] => 0
  | d :: r => uptoBulk d + uptoBulkAll r
def uptoBulkEntries {H : Type} : List (Lit × DataW H) → Nat
  | [] => 0
  | x :: r => uptoBulkEntry x + uptoBulkEntries r
def uptoBulkEntry {H : Type} : Lit × DataW H → Nat
  | (.string bytes, d) => bytes.length + uptoBulk d + 1
  | (_, d) => uptoBulk d + 1
 end
def uptoSmall : (H : Type) → List (DataW H) → Bool := fun _ ds => decide (uptoBulkAll ds ≤ 1048576)
def OpenSpec.upto (s : _root_.Go.ChangeSpec) : _root_.Go.OpenSpec := { _root_.Go.OpenSpec.ofChange s with cond := some uptoSmall }

/-- 'partkeep.MatFirm', WHERE WHAT IT READS IS OF BULK AT MOST 1048576: true; the input reads as it did. -/
def matFirmUptoRow : OpenClaim := { program := "ytikbileeohddjaa", sum := "f290fcda85c1fa2c666925245eda42986169c0a34caa2412d82e3abd88eba3f0", func := "partsong/partkeep.MatFirm", spec := "matFirm", apart := false, narrowed := true }
def MatFirmUptoSaid : Prop := matFirmUptoRow.holds Try.pinned (OpenSpec.upto matFirmSpec)

/-- 'partkeep.MatTrue', WHERE WHAT IT READS IS OF BULK AT MOST 1048576: true; the input reads as it did. -/
def matTrueUptoRow : OpenClaim := { program := "ytikbileeohddjaa", sum := "f290fcda85c1fa2c666925245eda42986169c0a34caa2412d82e3abd88eba3f0", func := "partsong/partkeep.MatTrue", spec := "matTrue", apart := false, narrowed := true }
def MatTrueUptoSaid : Prop := matTrueUptoRow.holds Try.pinned (OpenSpec.upto matTrueSpec)

/-- 'partkeep.MatRises', WHERE WHAT IT READS IS OF BULK AT MOST 1048576: true; the input reads as it did. -/
def matRisesUptoRow : OpenClaim := { program := "ytikbileeohddjaa", sum := "f290fcda85c1fa2c666925245eda42986169c0a34caa2412d82e3abd88eba3f0", func := "partsong/partkeep.MatRises", spec := "matRises", apart := false, narrowed := true }
def MatRisesUptoSaid : Prop := matRisesUptoRow.holds Try.pinned (OpenSpec.upto matRisesSpec)

/-- 'partkeep.MatAll', WHERE WHAT IT READS IS OF BULK AT MOST 1048576: true; the input reads as it did. -/
def matAllUptoRow : OpenClaim := { program := "ytikbileeohddjaa", sum := "f290fcda85c1fa2c666925245eda42986169c0a34caa2412d82e3abd88eba3f0", func := "partsong/partkeep.MatAll", spec := "matAll", apart := false, narrowed := true }
def MatAllUptoSaid : Prop := matAllUptoRow.holds Try.pinned (OpenSpec.upto matAllSpec)

end Rows
end Go.Proofs.Ytikbileeohddjaa
