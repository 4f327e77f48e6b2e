/- What the law ViewLine runs: it returns true for every view and every list of pairs. -/
import Derived.Test.YtofccajdoekjgaaView
set_option maxHeartbeats 1000000
set_option maxRecDepth 20000
set_option linter.unusedSimpArgs false
set_option linter.unusedVariables false
namespace Go.Proofs.Ytofccajdoekjgaa.View
open Go Go.Proofs.Ytofccajdoekjgaa.Sy Go.Proofs
theorem conv_u8 (n : Int) : ∃ k : Nat, k < 256 ∧ IntKind.wrap .u8 n = k := by
  have h := wrap_range .u8 n
  have h : (0 : Int) ≤ IntKind.wrap .u8 n ∧ IntKind.wrap .u8 n ≤ 255 := h
  exact ⟨(IntKind.wrap .u8 n).toNat, by omega, by omega⟩
set_option pp.maxSteps 3000 in
theorem line_runs : SpecRuns Try.prog 5 (lawSpec [VT, LVT]) := by
  obtain ⟨rest, hrest⟩ : ∃ r : Int → Int → Int, r = fun n m => if m ≤ 0 then 0 else arR .rem .i64 (arR .add .i64 (arR .rem .i64 n m) m) m := ⟨_, rfl⟩
  have h1 : SpecsOk Try.prog [(13, restSpec rest), (12, firstSpec firstF), (14, cntSpec cntF), (15, chkSpec chkF), (11, nextSpec nextF)] :=
    specsOk_cons Try.func13 (by kernel_rfl) (by kernel_rfl) (rest_runs rest hrest) (specsOk_cons Try.func12 (by kernel_rfl) (by kernel_rfl) first_runs (specsOk_cons Try.func14 (by kernel_rfl) (by kernel_rfl) cnt_runs (specsOk_cons Try.func15 (by kernel_rfl) (by kernel_rfl) chk_runs (specsOk_cons Try.func11 (by kernel_rfl) (by kernel_rfl) next_runs specsOk_nil))))
  generalize hnext : nextF = next at h1
  generalize hfirst : firstF = first at h1
  generalize hcnt : cntF = cnt at h1
  generalize hchk : chkF = chk at h1
  refine runs_of_walk (s := lawSpec [VT, LVT]) tabOk h1 Try.func5 rfl (Nat.le_of_ble_eq_true rfl) rfl ?_
  rintro E ⟨⟨(n : Int), (m : Int), ⟨⟩⟩, (l : List (Int × Int × Unit)), ⟨⟩⟩ A0 L hP hpre hw hA0 hL
  have hlen : l.length ≤ 4294967296 := by
    simp only [WfA, lawSpec, Wf, WfL, List.map] at hw
    exact hw.2.1.1
  refine ⟨?_⟩
  cbv
  refine ite_intro hA0 (fun hc => ?_) (fun hc => ?_)
  · subst hA0 hfirst
    exact absurd hc (by decide +kernel)
  refine loop_w (P := Try.prog) hP hA0 hL tabOk h1 [] [2, 25] (fun x : (Int × Int × Unit) × Int => [(2, .val (.box VT) (.b .n) x.1), (25, .val (.int .i64) .n x.2)])
    (fun x => 0 ≤ x.2 ∧ x.2 ≤ l.length) (fun x => (l.length - x.2).toNat) ((n, m, ()), 0) (by cbv) ⟨by simp, by simp⟩ (by cbv) ?_
  clear hc
  rintro ⟨⟨vn, vm, ⟨⟩⟩, i⟩ ⟨h0, h1'⟩ A hA R hR
  refine ⟨?_⟩
  cbv
  have hlt' : ∀ {b : Int}, A.cmp .lss i (A0.len (PT.st [PT.int IntKind.i64, PT.int IntKind.i64]) l) = true → i < (l.length : Int) := fun h => by subst hA hA0; exact of_decide_eq_true h
  refine ite_intro hA (fun hlt => ?_) (fun _ => rfl)
  have hi : i < (l.length : Int) := hlt' (b := 0) hlt
  have e1 : A.ar .add .i64 i 1 = i + 1 := by subst hA; exact add_i64 (by omega)
  refine ⟨by subst hA; exact ⟨h0, hi⟩, ite_intro hA (fun hne => ?_) (fun heq => ⟨imp_intro hA fun _ => trivial, imp_intro hA fun _ => trivial, ite_intro hA (fun h => ?_) (fun h => ?_)⟩)⟩
  · refine hR _ ((vn, vm, ()), A.ar .add .i64 i 1) ⟨by show 0 ≤ A.ar .add .i64 i 1; omega, by show A.ar .add .i64 i 1 ≤ (l.length : Int); omega⟩ (by show ((l.length : Int) - A.ar .add .i64 i 1).toNat < ((l.length : Int) - i).toNat; omega) ?_
    cbv
  · exfalso
    subst hA hA0
    obtain ⟨g, hg, eg⟩ := conv_u8 (rest (l.getD i.toNat (PT.st [PT.int IntKind.i64, PT.int IntKind.i64]).dflt).1 64)
    obtain ⟨c, hc', ec⟩ := conv_u8 (rest (l.getD i.toNat (PT.st [PT.int IntKind.i64, PT.int IntKind.i64]).dflt).2.1 64)
    simp only [real0, cmpR] at h heq
    dsimp only [PT.den, PT.denL] at h heq eg ec
    simp only [eg, ec] at h heq
    subst hnext hcnt hchk
    have heq : (nextF (vn, vm, ()) (g : Int) (c : Int)).2 = 0 := by simpa using heq
    obtain ⟨⟨wn, wm, ⟨⟩⟩, hwq⟩ : ∃ w, nextF (vn, vm, ()) (g : Int) (c : Int) = (w, 0) := ⟨_, Prod.ext rfl heq⟩
    obtain ⟨k1, k2, k3, k4, k5, k6, m, e1, l1, e2, l2, p1, p2⟩ := next_ok hg hc' hwq
    simp only [hwq] at h
    replace k6 : wn = vn + 1 := k6
    replace e1 : vm = (m : Int) := e1
    replace e2 : wm = ((stayN m g ||| c : Nat) : Int) := e2
    obtain ⟨q1, _⟩ := chk_zero k1
    dsimp only at q1
    subst k6 e1 e2
    generalize hW : stayN m g ||| c = W at *
    have hsl : stayN m g < 64 := Nat.lt_of_le_of_lt Nat.and_le_left l1
    have hmw : m &&& W ≤ m := Nat.and_le_left
    have hp : pc (stayN m g) ≤ pc (m &&& W) := by
      refine pc_sub _ hsl _ (Nat.lt_of_le_of_lt Nat.and_le_left l1) ?_
      rw [← hW]
      unfold stayN
      apply Nat.eq_of_testBit_eq; intro i
      simp only [Nat.testBit_and, Nat.testBit_or]
      cases m.testBit i <;> cases (255 - g).testBit i <;> cases c.testBit i <;> rfl
    have hpc : ∀ k, pc k ≤ 8 := fun k => by unfold pc; omega
    have hp1 := hpc (m &&& W)
    have c1 : cntF ((m &&& W : Nat) : Int) = pc (m &&& W) := by simp [cntF]
    have c2 : cntF ((m : Nat) : Int) = pc m := by simp [cntF]
    rw [and_N (k := .u8) (le_u8 (by omega)) (le_u8 (by omega)), c1, c2, add_i64 (by omega), mul_i64 (by omega), k2] at h
    simp at h
    omega
  · refine hR _ ((next (vn, vm, ()) (A.conv .u8 (rest (A.get (PT.st [PT.int IntKind.i64, PT.int IntKind.i64]) l i).1 64)) (A.conv .u8 (rest (A.get (PT.st [PT.int IntKind.i64, PT.int IntKind.i64]) l i).2.1 64))).1, A.ar .add .i64 i 1) ⟨by show 0 ≤ A.ar .add .i64 i 1; omega, by show A.ar .add .i64 i 1 ≤ (l.length : Int); omega⟩ (by show ((l.length : Int) - A.ar .add .i64 i 1).toNat < ((l.length : Int) - i).toNat; omega) ?_
    cbv
end Go.Proofs.Ytofccajdoekjgaa.View
