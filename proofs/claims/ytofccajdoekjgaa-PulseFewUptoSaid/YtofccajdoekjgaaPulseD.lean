/- The functions Hear and few: what each computes. -/
import Derived.Test.YtofccajdoekjgaaPulseC
set_option maxHeartbeats 1000000
set_option maxRecDepth 20000
set_option linter.unusedSimpArgs false
set_option linter.unusedVariables false
namespace Go.Proofs.Ytofccajdoekjgaa.PulseT
open Go Go.Proofs.Ytofccajdoekjgaa.Sy Go.Proofs
def hearSpec (f : UD → Int → UD × Bool × Int) : FSpec := ⟨[UT, .int .i64], [.v, .v], [UT, .bool, .int .i64], [.n, .n, .n], fun _ => True, fun x => ((f x.1 x.2.1).1, (f x.1 x.2.1).2.1, (f x.1 x.2.1).2.2, ())⟩
def fewSpec (f : Int → Int) : FSpec := ⟨[.int .i64], [.v], [.int .i64], [.n], fun _ => True, fun x => (f x.1, ())⟩
def fewF (x : Int) : Int := arR .add .i64 (restF x 6) 1
def hearF (v : UV) (w : Int) : UV × Bool × Int :=
  if chkF v = 0 then
    if w < 0 ∨ w ≥ 6 ∨ w = v.1 then (zeroU, false, 1) else
    if v.2.2.2.2.1.getD w.toNat false = true then
      ((v.1, v.2.1, v.2.2.1.set w.toNat v.2.1, v.2.2.2.1.set w.toNat (if arR .add .i64 (v.2.2.2.1.getD w.toNat 0) 1 < 1000 then arR .add .i64 (v.2.2.2.1.getD w.toNat 0) 1 else 1000), v.2.2.2.2.1.set w.toNat false, ()), v.2.2.2.2.1.getD w.toNat false, 0)
    else ((v.1, v.2.1, v.2.2.1.set w.toNat v.2.1, v.2.2.2.1, v.2.2.2.2.1, ()), v.2.2.2.2.1.getD w.toNat false, 0)
  else (zeroU, false, chkF v)
theorem few_runs : SpecRuns Try.prog 22 (fewSpec fewF) := by
  have h1 : SpecsOk Try.prog [(13, restSpec restF)] := specsOk_cons Try.func13 (by kernel_rfl) (by kernel_rfl) (rest_runs restF rfl) specsOk_nil
  obtain ⟨rest, hrest⟩ : ∃ c : Int → Int → Int, c = restF := ⟨_, rfl⟩
  obtain ⟨few, hfew⟩ : ∃ c : Int → Int, c = fewF := ⟨_, rfl⟩
  rw [← hrest] at h1
  rw [← hfew]
  refine runs_of_walk (s := fewSpec few) tabOk h1 Try.func22 rfl (Nat.le_of_ble_eq_true rfl) rfl ?_
  rintro E ⟨(x : Int), ⟨⟩⟩ A0 L hP hpre hw hA0 hL
  refine ⟨?_⟩
  cbv
  subst hA0 hrest hfew
  rfl
theorem hear_runs : SpecRuns Try.prog 23 (hearSpec hearF) := by
  have h1 : SpecsOk Try.prog [(20, chkSpec chkF)] := specsOk_cons Try.func20 (by kernel_rfl) (by kernel_rfl) chk_runs specsOk_nil
  obtain ⟨chk, hchk⟩ : ∃ c : UD → Int, c = chkF := ⟨_, rfl⟩
  obtain ⟨hear, hhear⟩ : ∃ c : UD → Int → UD × Bool × Int, c = hearF := ⟨_, rfl⟩
  rw [← hchk] at h1
  rw [← hhear]
  refine runs_of_walk (s := hearSpec hear) tabOk h1 Try.func23 rfl (Nat.le_of_ble_eq_true rfl) rfl ?_
  rintro E ⟨⟨(me : Int), (now : Int), (last : List Int), (wait : List Int), (doubt : List Bool), ⟨⟩⟩, (w : Int), ⟨⟩⟩ A0 L hP hpre hw hA0 hL
  refine ⟨?_⟩
  cbv
  refine ite_intro hA0 (fun hc => ?_) (fun hc => ?_)
  · subst hA0 hchk hhear
    simp only [real0, cmpR] at hc
    dsimp only [PT.den, PT.denL] at *
    have hc : ¬ chkF (me, now, last, wait, doubt, ()) = 0 := by simpa using hc
    refine pair3 ?_
    simp only [hearF, hc, if_false, zeroU]
  have hck : chkF (me, now, last, wait, doubt, ()) = 0 := by
    subst hA0 hchk
    have := hc
    simp only [real0, cmpR] at this
    dsimp only [PT.den, PT.denL] at this
    simpa using this
  clear hc
  refine ite_intro hA0 (fun hf => ?_) (fun hf => ?_)
  · have hfk : w < 0 ∨ w ≥ 6 ∨ w = me := by
      subst hA0
      simp only [real0, cmpR] at hf
      simpa [or_assoc] using hf
    clear hf
    subst hA0 hchk hhear
    dsimp only [PT.den, PT.denL] at *
    refine pair3 ?_
    simp only [hearF, hck, if_true]
    rw [if_pos hfk]
    rfl
  have hfk : ¬ (w < 0 ∨ w ≥ 6 ∨ w = me) := by
    subst hA0
    simp only [real0, cmpR] at hf
    intro h
    rw [Bool.or_eq_false_iff, Bool.or_eq_false_iff] at hf
    simp only [decide_eq_false_iff_not, beq_eq_false_iff_ne] at hf
    omega
  clear hf
  have hin : 0 ≤ w ∧ w < Int.ofNat 6 := by show 0 ≤ w ∧ w < 6; omega
  refine ⟨by subst hA0; exact hin, ?_⟩
  refine ite_intro hA0 (fun hb => ?_) (fun hb => ?_)
  · refine ⟨by subst hA0; exact hin, by subst hA0; exact hin, by subst hA0; exact hin, by subst hA0; exact hin, ?_⟩
    have hbk : doubt.getD w.toNat false = true := by subst hA0; exact hb
    clear hb
    subst hA0 hchk hhear
    dsimp only [PT.den, PT.denL] at *
    refine pair3 ?_
    simp only [hearF, hck, if_true]
    rw [if_neg hfk, if_pos hbk]
    rfl
  · refine ⟨by subst hA0; exact hin, ?_⟩
    have hbk : ¬ doubt.getD w.toNat false = true := by subst hA0; intro e; exact absurd (e.symm.trans hb) (by simp)
    clear hb
    subst hA0 hchk hhear
    dsimp only [PT.den, PT.denL] at *
    refine pair3 ?_
    simp only [hearF, hck, if_true]
    rw [if_neg hfk, if_neg hbk]
    rfl
end Go.Proofs.Ytofccajdoekjgaa.PulseT
