/- The statement 'LatBack', for inputs of bulk at most 1048576: the law returns true and its input reads behind the call as it read before. No condition beyond the statement's own. -/
import Derived.Test.YtaachifkgcdeoaaLtLawsD
import Derived.ChangeCalls
import Derived.Test.YtaachifkgcdeoaaRows
import Derived.WalkKit
import Derived.ProofKit
import Derived.OpenShut
import Derived.ShutString
import Derived.ChangeOld
import Derived.Below
import Derived.SizedLaws
import Derived.JoinedCond
namespace Go.Proofs.Ytaachifkgcdeoaa.RowLatBack
set_option linter.unusedSimpArgs false
set_option linter.unusedVariables false
set_option maxHeartbeats 4000000
open Go Go.Proofs.Ytaachifkgcdeoaa.Sy Go.Proofs Go.Proofs.Ytaachifkgcdeoaa
open Go.ChangeShapes Go.WideShapes Go.ChangeAt Go.RowKit
theorem own : ownKnob Try.prog.godebug = none := by kernel_rfl
theorem laidOut : laidOutB Try.prog = true := by kernel_rfl
mutual
theorem ub_eq {H : Type} : ∀ d : DataW H, Rows.uptoBulk d = ub d
  | .lit l => by cases l <;> simp only [Rows.uptoBulk, ub]
  | .nil => by simp only [Rows.uptoBulk, ub]
  | .ptr d => by simp only [Rows.uptoBulk, ub, ub_eq d]
  | .slice a b => by simp only [Rows.uptoBulk, ub, ubL_eq a, ubL_eq b]
  | .agg a => by simp only [Rows.uptoBulk, ub, ubL_eq a]
  | .iface _ d => by simp only [Rows.uptoBulk, ub, ub_eq d]
  | .map es => by simp only [Rows.uptoBulk, ub, ubE_eq es]
  | .held _ => by simp only [Rows.uptoBulk, ub]
theorem ubL_eq {H : Type} : ∀ d : List (DataW H), Rows.uptoBulkAll d = ubL d
  | [] => by simp only [Rows.uptoBulkAll, ubL]
  | d :: r => by simp only [Rows.uptoBulkAll, ubL, ub_eq d, ubL_eq r]
theorem ubE_eq {H : Type} : ∀ d : List (Lit × DataW H), Rows.uptoBulkEntries d = ubE d
  | [] => by simp only [Rows.uptoBulkEntries, ubE]
  | x :: r => by simp only [Rows.uptoBulkEntries, ubE, ubX_eq x, ubE_eq r]
theorem ubX_eq {H : Type} : ∀ d : Lit × DataW H, Rows.uptoBulkEntry d = ubX d
  | (l, d) => by cases l <;> simp only [Rows.uptoBulkEntry, ubX, ub_eq d]
end
theorem tys : TysOk Try.prog [.st [.int .i64, .list (.st [.int .i64, .int .i64])]] Try.f7.params.toList := ⟨tyB_ok (by kernel_rfl), trivial⟩
set_option maxRecDepth 100000 in
theorem lifted (os : Os) (started : os.Started) (H : Type) (enc : TypeId × Value → H) (F : Stop.Interp) :
    ReturnsInHanded {} Try.checked os 7 .any ((Rows.OpenSpec.upto Rows.latBackSpec).pre6 enc Try.prog Try.f7 [] false) (((Rows.OpenSpec.upto Rows.latBackSpec).at F).post enc Try.prog Try.f7 false true false false) := by
  refine returnsInHanded_of_cond (C := Try.checked) (s := Rows.OpenSpec.upto Rows.latBackSpec) (k := Rows.uptoSmall) rfl own started (by kernel_rfl) Try.func7
    (OpenSpec.witness (enc := enc) (C := Try.checked) (s := Rows.OpenSpec.upto Rows.latBackSpec) (k := Rows.uptoSmall) rfl false ⟨#[], #[(.agg #[(.int .i64 0), (.slice none 0 0)])], []⟩ 8 (by kernel_rfl) (by kernel_rfl) (by kernel_rfl)
      (x := ([(.agg [(.lit (.int .i64 0)), .nil])], [], [])) (by kernel_rfl) rfl rfl) ?_
  intro W base args ds gs before hval hW _ hk _
  have hW' := hW
  obtain ⟨p, q, hA, hV, rfl, hfz, hnd⟩ := hW
  obtain ⟨rfl, rfl⟩ := trodVars_none hV
  have hb : ubL ds ≤ 1048576 := by
    have : Rows.uptoBulkAll (ds ++ []) ≤ 1048576 := of_decide_eq_true hk
    rw [List.append_nil, ubL_eq] at this
    exact this
  refine (law_calls (Ts := Try.f7.params.toList) (ts := [.st [.int .i64, .list (.st [.int .i64, .int .i64])]]) Go.Proofs.Ytaachifkgcdeoaa.Lt.back_runs tys rfl (fun j t v a b => hval j t v (by simpa using a) b) hA hb).mono fun e W' ⟨he, bel⟩ => ?_
  subst he
  refine ⟨_, rfl, ?_⟩
  refine law_post (s := (Rows.OpenSpec.upto Rows.latBackSpec).at F) laidOut hW' hA bel (by kernel_rfl) rfl (T := 4) Try.underlying4 ?_ ?_ ?_ rfl
  all_goals
    have hl : ds.length = 1 := (trodAll_length hA).2
    match ds, hl with
    | [d1], _ => rfl
theorem holds : Rows.LatBackUptoSaid :=
  OpenClaim.holds_of_cond 7 Try.f7 rfl rfl rfl rfl rfl rfl rfl ⟨rfl, rfl, rfl, rfl, rfl⟩ rfl rfl rfl rfl rfl (by kernel_rfl) Try.func7 (by kernel_rfl)
    (of_decide_eq_true (by kernel_rfl)) (by unfold Func.isWrapper; first | (rw [if_pos (by decide +kernel)]; kernel_rfl) | (rw [if_neg (by decide +kernel)]; exact ⟨rfl, rfl⟩))
    (fun os started H enc _ F => lifted os started H enc F)
end Go.Proofs.Ytaachifkgcdeoaa.RowLatBack
#print axioms Go.Proofs.Ytaachifkgcdeoaa.RowLatBack.holds
