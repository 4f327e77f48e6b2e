/- The functions of package view, and what three laws of views run: each theorem bears its conditions itself. -/
import Derived.Test.YtofccajdoekjgaaSye
import Derived.Test.YtofccajdoekjgaaProg
import Derived.KernelRfl
set_option maxHeartbeats 1000000
set_option maxRecDepth 20000
set_option linter.unusedSimpArgs false
set_option linter.unusedVariables false
namespace Go.Proofs.Ytofccajdoekjgaa.View
open Go Go.Proofs.Ytofccajdoekjgaa.Sy Go.Proofs
def tab : Tab := [none, none, some (.int .i64, true), some (.int .i64, true), some (.bool, true), some (.int .u8, true), some (.int .u8, true), none, none, some (.str, true), some (.str, true), some (.str, true), some (.int .u64, true), none, none, none, none, none, none, none, none, some (.int .i32, true), some (.st [.int .i64, .int .u8], true), some (.st [.int .i64, .int .u8], true), some (.int .i64, true), none, none, none, none, none, none, some (.list (.st [.int .i64, .int .i64]), false), none, none, some (.st [.int .i64, .int .i64], true), some (.st [.int .i64, .int .i64], true), none, none, none, none, none, some (.arr 6 (.int .i64), true), some (.arr 6 (.bool), true), some (.st [.int .i64, .int .i64, .arr 6 (.int .i64), .arr 6 (.int .i64), .arr 6 (.bool)], true), some (.st [.int .i64, .int .i64, .arr 6 (.int .i64), .arr 6 (.int .i64), .arr 6 (.bool)], true), none, none, none, none, some (.list (.int .i64), false), none, none, none, none, none, none, none, none, none, some (.int .u64, true), none, none, none, none, none, none, none, none, some (.int .u32, true), some (.int .u8, true), some (.int .u8, true), none, none, some (.int .i32, true), some (.int .i32, true)]
theorem tabOk : TabOk Try.prog tab := tabOk_of (by kernel_rfl) (by kernel_rfl)
abbrev VT : PT := .st [.int .i64, .int .u8]
abbrev VD := VT.den
def chkSpec (chk : VD → Int) : FSpec := ⟨[VT], [.v], [.int .i64], [.n], fun _ => True, fun x => (chk x.1, ())⟩
def cntSpec (cnt : Int → Int) : FSpec := ⟨[.int .u8], [.v], [.int .i64], [.n], fun _ => True, fun x => (cnt x.1, ())⟩
def nextSpec (next : VD → Int → Int → VD × Int) : FSpec := ⟨[VT, .int .u8, .int .u8], [.v, .v, .v], [VT, .int .i64], [.n, .n], fun _ => True, fun x => ((next x.1 x.2.1 x.2.2.1).1, (next x.1 x.2.1 x.2.2.1).2, ())⟩
def folSpec (fol : VD → VD → Bool × Int) : FSpec := ⟨[VT, VT], [.v, .v], [.bool, .int .i64], [.n, .n], fun _ => True, fun x => ((fol x.1 x.2.1).1, (fol x.1 x.2.1).2, ())⟩
def firstSpec (first : VD → Int × Int) : FSpec := ⟨[VT], [.v], [.int .i64, .int .i64], [.n, .n], fun _ => True, fun x => ((first x.1).1, (first x.1).2, ())⟩
def tzSpec (tz : Int → Int) : FSpec := ⟨[.int .u8], [.v], [.int .i64], [.n], fun _ => True, fun x => (tz x.1, ())⟩
def restSpec (rest : Int → Int → Int) : FSpec := ⟨[.int .i64, .int .i64], [.v, .v], [.int .i64], [.n], fun _ => True, fun x => (rest x.1 x.2.1, ())⟩
abbrev LVT : PT := .list (.st [.int .i64, .int .i64])

/-! ### The plain functions -/
def pc (n : Nat) : Nat := n % 2 + n / 2 % 2 + n / 4 % 2 + n / 8 % 2 + n / 16 % 2 + n / 32 % 2 + n / 64 % 2 + n / 128 % 2
def tzN (n : Nat) : Nat := if n % 2 = 1 then 0 else if n / 2 % 2 = 1 then 1 else if n / 4 % 2 = 1 then 2 else if n / 8 % 2 = 1 then 3 else if n / 16 % 2 = 1 then 4 else if n / 32 % 2 = 1 then 5 else if n / 64 % 2 = 1 then 6 else if n / 128 % 2 = 1 then 7 else 8
def cntF (m : Int) : Int := pc m.toNat
def tzF (m : Int) : Int := tzN m.toNat
def chkF (v : Int × Int × Unit) : Int := if (0 ≤ v.1 ∧ v.1 ≤ 16777215) ∧ 1 ≤ v.2.1 ∧ v.2.1 < 64 then 0 else 1
def stayN (m g : Nat) : Nat := m &&& (255 - g)
def nextF (v : Int × Int × Unit) (g c : Int) : (Int × Int × Unit) × Int :=
  if chkF v = 0 then
    if (g.toNat ||| c.toNat) < 64 ∧ g.toNat &&& c.toNat = 0 then
      if v.1 = 16777215 then ((0, 0, ()), 8) else
      if 2 * pc (stayN v.2.1.toNat g.toNat) ≤ pc v.2.1.toNat then ((0, 0, ()), 11) else
      ((v.1 + 1, ((stayN v.2.1.toNat g.toNat ||| c.toNat : Nat) : Int), ()), 0)
    else ((0, 0, ()), 1)
  else ((0, 0, ()), 1)
def folF (a b : Int × Int × Unit) : Bool × Int :=
  if chkF a = 0 ∧ chkF b = 0 then (decide (b.1 = a.1 + 1 ∧ pc a.2.1.toNat < 2 * pc (a.2.1.toNat &&& b.2.1.toNat)), 0) else (false, 1)
def firstF (v : Int × Int × Unit) : Int × Int := if chkF v = 0 then (tzF v.2.1, 0) else (0, 1)

theorem pair1 {α : Type} {a b : α} (h : a = b) : (a, ()) = (b, ()) := by rw [h]
theorem pair2 {α β : Type} {a b : α} {c d : β} (h : (a, c) = (b, d)) : (a, c, ()) = (b, d, ()) := by cases h; rfl
theorem u8_nat {m : Int} (h : Wf (.int .u8) m) : ∃ k : Nat, m = k ∧ k < 256 := by
  have h : (0 : Int) ≤ m ∧ m ≤ 255 := h
  exact ⟨m.toNat, by omega, by omega⟩
theorem le_u8 {k : Nat} (h : k < 256) : ((k : Nat) : Int) ≤ IntKind.max .u8 := by
  show ((k : Nat) : Int) ≤ 255
  omega

theorem chk_runs : SpecRuns Try.prog 15 (chkSpec chkF) := by
  refine runs_of_walk (s := chkSpec chkF) tabOk specsOk_nil Try.func15 rfl (Nat.le_of_ble_eq_true rfl) rfl ?_
  rintro E ⟨⟨(n : Int), (m : Int), ⟨⟩⟩, ⟨⟩⟩ A L hP hpre hw hA hL
  refine ⟨?_⟩
  generalize hc : chkF = chk
  cbv
  subst hA
  simp only [real0, cmpR]
  dsimp only [PT.den, PT.denL] at *
  subst hc
  simp only [WfA, chkSpec, Wf, WfL] at hw
  obtain ⟨m, rfl, hm⟩ := u8_nat (m := m) hw.1.2.1
  rw [show ((6 : Int)) = ((6 : Nat) : Int) from rfl, shr_N (k := .u8) (n := 6) (by decide)]
  refine ⟨fun _ => by decide, fun h => ?_, fun h => ?_⟩
  · simp at h
    have : chkF (n, (m : Int), ()) = 1 := by
      simp only [chkF]
      rw [if_neg (by omega)]
    exact pair1 this.symm
  · simp at h
    have : chkF (n, (m : Int), ()) = 0 := by
      simp only [chkF]
      rw [if_pos (by omega)]
    exact pair1 this.symm
theorem cnt_tab : ∀ k : Nat, k < 256 → real0.conv .i64 (real0.sidx ⟨(([0, 1, 1, 2, 1, 2, 2, 3, 1, 2, 2, 3, 2, 3, 3, 4, 1, 2, 2, 3, 2, 3, 3, 4, 2, 3, 3, 4, 3, 4, 4, 5, 1, 2, 2, 3, 2, 3, 3, 4, 2, 3, 3, 4, 3, 4, 4, 5, 2, 3, 3, 4, 3, 4, 4, 5, 3, 4, 4, 5, 4, 5, 5, 6, 1, 2, 2, 3, 2, 3, 3, 4, 2, 3, 3, 4, 3, 4, 4, 5, 2, 3, 3, 4, 3, 4, 4, 5, 3, 4, 4, 5, 4, 5, 5, 6, 2, 3, 3, 4, 3, 4, 4, 5, 3, 4, 4, 5, 4, 5, 5, 6, 3, 4, 4, 5, 4, 5, 5, 6, 4, 5, 5, 6, 5, 6, 6, 7, 1, 2, 2, 3, 2, 3, 3, 4, 2, 3, 3, 4, 3, 4, 4, 5, 2, 3, 3, 4, 3, 4, 4, 5, 3, 4, 4, 5, 4, 5, 5, 6, 2, 3, 3, 4, 3, 4, 4, 5, 3, 4, 4, 5, 4, 5, 5, 6, 3, 4, 4, 5, 4, 5, 5, 6, 4, 5, 5, 6, 5, 6, 6, 7, 2, 3, 3, 4, 3, 4, 4, 5, 3, 4, 4, 5, 4, 5, 5, 6, 3, 4, 4, 5, 4, 5, 5, 6, 4, 5, 5, 6, 5, 6, 6, 7, 3, 4, 4, 5, 4, 5, 5, 6, 4, 5, 5, 6, 5, 6, 6, 7, 4, 5, 5, 6, 5, 6, 6, 7, 5, 6, 6, 7, 6, 7, 7, 8] : List UInt8)).toArray⟩ (k : Int)) = cntF k := by decide +kernel
theorem tz_tab : ∀ k : Nat, k < 256 → real0.conv .i64 (real0.sidx ⟨(([8, 0, 1, 0, 2, 0, 1, 0, 3, 0, 1, 0, 2, 0, 1, 0, 4, 0, 1, 0, 2, 0, 1, 0, 3, 0, 1, 0, 2, 0, 1, 0, 5, 0, 1, 0, 2, 0, 1, 0, 3, 0, 1, 0, 2, 0, 1, 0, 4, 0, 1, 0, 2, 0, 1, 0, 3, 0, 1, 0, 2, 0, 1, 0, 6, 0, 1, 0, 2, 0, 1, 0, 3, 0, 1, 0, 2, 0, 1, 0, 4, 0, 1, 0, 2, 0, 1, 0, 3, 0, 1, 0, 2, 0, 1, 0, 5, 0, 1, 0, 2, 0, 1, 0, 3, 0, 1, 0, 2, 0, 1, 0, 4, 0, 1, 0, 2, 0, 1, 0, 3, 0, 1, 0, 2, 0, 1, 0, 7, 0, 1, 0, 2, 0, 1, 0, 3, 0, 1, 0, 2, 0, 1, 0, 4, 0, 1, 0, 2, 0, 1, 0, 3, 0, 1, 0, 2, 0, 1, 0, 5, 0, 1, 0, 2, 0, 1, 0, 3, 0, 1, 0, 2, 0, 1, 0, 4, 0, 1, 0, 2, 0, 1, 0, 3, 0, 1, 0, 2, 0, 1, 0, 6, 0, 1, 0, 2, 0, 1, 0, 3, 0, 1, 0, 2, 0, 1, 0, 4, 0, 1, 0, 2, 0, 1, 0, 3, 0, 1, 0, 2, 0, 1, 0, 5, 0, 1, 0, 2, 0, 1, 0, 3, 0, 1, 0, 2, 0, 1, 0, 4, 0, 1, 0, 2, 0, 1, 0, 3, 0, 1, 0, 2, 0, 1, 0] : List UInt8)).toArray⟩ (k : Int)) = tzF k := by decide +kernel
theorem cnt_runs : SpecRuns Try.prog 14 (cntSpec cntF) := by
  refine runs_of_walk (s := cntSpec cntF) tabOk specsOk_nil Try.func14 rfl (Nat.le_of_ble_eq_true rfl) rfl ?_
  rintro E ⟨(n : Int), ⟨⟩⟩ A L hP hpre hw hA hL
  refine ⟨?_⟩
  generalize hc : cntF = cnt
  cbv
  subst hA hc
  simp only [WfA, cntSpec, Wf, WfL] at hw
  obtain ⟨m, rfl, hm⟩ := u8_nat (m := n) hw.1
  refine ⟨⟨by omega, ?_⟩, ?_⟩
  · show (m : Int) < 256
    omega
  · exact congrArg (fun x : Int => (x, ())) (cnt_tab m hm)
theorem tz_runs : SpecRuns Try.prog 16 (tzSpec tzF) := by
  refine runs_of_walk (s := tzSpec tzF) tabOk specsOk_nil Try.func16 rfl (Nat.le_of_ble_eq_true rfl) rfl ?_
  rintro E ⟨(n : Int), ⟨⟩⟩ A L hP hpre hw hA hL
  refine ⟨?_⟩
  generalize hc : tzF = cnt
  cbv
  subst hA hc
  simp only [WfA, tzSpec, Wf, WfL] at hw
  obtain ⟨m, rfl, hm⟩ := u8_nat (m := n) hw.1
  refine ⟨⟨by omega, ?_⟩, ?_⟩
  · show (m : Int) < 256
    omega
  · exact congrArg (fun x : Int => (x, ())) (tz_tab m hm)

theorem next_runs : SpecRuns Try.prog 11 (nextSpec nextF) := by
  have h1 : SpecsOk Try.prog [(15, chkSpec chkF), (14, cntSpec cntF)] := specsOk_cons Try.func15 (by kernel_rfl) (by kernel_rfl) chk_runs (specsOk_cons Try.func14 (by kernel_rfl) (by kernel_rfl) cnt_runs specsOk_nil)
  generalize hchk : chkF = chk at h1
  generalize hcnt : cntF = cnt at h1
  refine runs_of_walk (s := nextSpec nextF) tabOk h1 Try.func11 rfl (Nat.le_of_ble_eq_true rfl) rfl ?_
  rintro E ⟨⟨(n : Int), (m : Int), ⟨⟩⟩, (g : Int), (c : Int), ⟨⟩⟩ A L hP hpre hw hA hL
  refine ⟨?_⟩
  generalize hnext : nextF = next
  cbv
  subst hA
  simp only [real0, cmpR]
  dsimp only [PT.den, PT.denL] at *
  subst hchk hcnt hnext
  simp only [WfA, nextSpec, Wf, WfL] at hw
  obtain ⟨m, rfl, hm⟩ := u8_nat (m := m) hw.1.2.1
  obtain ⟨g, rfl, hg⟩ := u8_nat (m := g) hw.2.1
  obtain ⟨c, rfl, hc⟩ := u8_nat (m := c) hw.2.2.1
  have hgc : g ||| c < 256 := Nat.or_lt_two_pow (n := 8) hg hc
  have hst : stayN m g ≤ m := Nat.and_le_left
  rw [or_N (k := .u8) (le_u8 hg) (le_u8 hc), and_N (k := .u8) (le_u8 hg) (le_u8 hc), andNot_N (k := .u8) (le_u8 hm) (le_u8 hg), show ((6 : Int)) = ((6 : Nat) : Int) from rfl, shr_N (k := .u8) (n := 6) (by decide)]
  rw [show m &&& (2 ^ IntKind.bits .u8 - 1 - g) = stayN m g from rfl, or_N (k := .u8) (le_u8 (by omega)) (le_u8 hc)]
  have e1 : cntF ((stayN m g : Nat) : Int) = pc (stayN m g) := by simp [cntF]
  have e2 : cntF (m : Int) = pc m := by simp [cntF]
  have hpc : ∀ k, pc k ≤ 8 := fun k => by unfold pc; omega
  have hp1 := hpc (stayN m g)
  rw [e1, e2, mul_i64 (by omega)]
  by_cases k1 : chkF (n, (m : Int), ()) = 0
  · refine ⟨fun h => absurd (show chkF (n, (m : Int), ()) ≠ 0 from by simpa using h) (by simp [k1]), fun h => ⟨by decide, fun h2 => ?_, fun h2 => ⟨fun h3 => ?_, fun h3 => ⟨fun h4 => ?_, fun h4 => ?_⟩⟩⟩⟩
    · refine pair2 ?_
      have k2 : ¬ ((g ||| c) < 64 ∧ g &&& c = 0) := by
        simp at h2; omega
      simp only [nextF, k1, if_true, Int.toNat_natCast, k2, if_false]
    all_goals
      have k2 : (g ||| c) < 64 ∧ g &&& c = 0 := by
        simp at h2; omega
    · refine pair2 ?_
      have k3 : n = 16777215 := by simpa using h3
      simp only [nextF, k1, if_true, Int.toNat_natCast, k2, if_false, k3, and_self]
      simp only [k3] at k1
      simp only [k1, if_true]
    all_goals
      have k3 : ¬ n = 16777215 := by simpa using h3
      have hn : 0 ≤ n ∧ n ≤ 16777215 := by
        simp only [chkF] at k1
        split at k1 <;> omega
    · refine pair2 ?_
      have k4 : 2 * pc (stayN m g) ≤ pc m := by simp at h4; omega
      simp only [nextF, k1, if_true, Int.toNat_natCast, k2, if_false, k3, and_self, k4]
    · have k4 : ¬ 2 * pc (stayN m g) ≤ pc m := by simp at h4; omega
      rw [add_i64 (by omega)]
      refine pair2 ?_
      simp only [nextF, k1, if_true, Int.toNat_natCast, k2, if_false, k3, and_self, k4]
  · have hc1 : ∀ v, chkF v = 0 ∨ chkF v = 1 := fun v => by unfold chkF; split <;> simp
    have k0 := (hc1 (n, (m : Int), ())).resolve_left k1
    refine ⟨fun h => ?_, fun h => absurd (show chkF (n, (m : Int), ()) = 0 from by simpa using h) k1⟩
    refine pair2 ?_
    simp only [nextF, k0]
    rfl
theorem fol_runs : SpecRuns Try.prog 10 (folSpec folF) := by
  have h1 : SpecsOk Try.prog [(15, chkSpec chkF), (14, cntSpec cntF)] := specsOk_cons Try.func15 (by kernel_rfl) (by kernel_rfl) chk_runs (specsOk_cons Try.func14 (by kernel_rfl) (by kernel_rfl) cnt_runs specsOk_nil)
  generalize hchk : chkF = chk at h1
  generalize hcnt : cntF = cnt at h1
  refine runs_of_walk (s := folSpec folF) tabOk h1 Try.func10 rfl (Nat.le_of_ble_eq_true rfl) rfl ?_
  rintro E ⟨⟨(n : Int), (m : Int), ⟨⟩⟩, ⟨(n2 : Int), (m2 : Int), ⟨⟩⟩, ⟨⟩⟩ A L hP hpre hw hA hL
  refine ⟨?_⟩
  generalize hfol : folF = fol
  cbv
  subst hA
  simp only [real0, cmpR]
  dsimp only [PT.den, PT.denL] at *
  subst hchk hcnt hfol
  simp only [WfA, folSpec, Wf, WfL] at hw
  obtain ⟨m, rfl, hm⟩ := u8_nat (m := m) hw.1.2.1
  obtain ⟨m2, rfl, hm2⟩ := u8_nat (m := m2) hw.2.1.2.1
  rw [and_N (k := .u8) (le_u8 hm) (le_u8 hm2)]
  have e1 : cntF ((m &&& m2 : Nat) : Int) = pc (m &&& m2) := by simp [cntF]
  have e2 : cntF (m : Int) = pc m := by simp [cntF]
  have hpc : ∀ k, pc k ≤ 8 := fun k => by unfold pc; omega
  have hp1 := hpc (m &&& m2)
  rw [e1, e2, mul_i64 (by omega)]
  have hc1 : ∀ v, chkF v = 0 ∨ chkF v = 1 := fun v => by unfold chkF; split <;> simp
  by_cases k1 : chkF (n, (m : Int), ()) = 0
  · refine ⟨fun h => absurd (show chkF (n, (m : Int), ()) ≠ 0 from by simpa using h) (by simp [k1]), fun h => ⟨fun h2 => ?_, fun h2 => ⟨fun _ => trivial, fun _ => trivial, ?_⟩⟩⟩
    · have k2 : ¬ chkF (n2, (m2 : Int), ()) = 0 := by simpa using h2
      have k3 := (hc1 (n2, (m2 : Int), ())).resolve_left k2
      refine pair2 ?_
      simp only [folF, k1, k3]
      rfl
    · have k2 : chkF (n2, (m2 : Int), ()) = 0 := by simpa using h2
      have hn : 0 ≤ n ∧ n ≤ 16777215 := by
        simp only [chkF] at k1
        split at k1 <;> omega
      rw [add_i64 (by omega)]
      refine pair2 ?_
      simp only [folF, k1, k2, and_self, if_true, Int.toNat_natCast]
      congr 1
      rw [Bool.eq_iff_iff]
      simp
      intro _
      omega
  · have k3 := (hc1 (n, (m : Int), ())).resolve_left k1
    refine ⟨fun h => ?_, fun h => absurd (show chkF (n, (m : Int), ()) = 0 from by simpa using h) k1⟩
    refine pair2 ?_
    simp only [folF, k3]
    rfl
theorem first_runs : SpecRuns Try.prog 12 (firstSpec firstF) := by
  have h1 : SpecsOk Try.prog [(15, chkSpec chkF), (16, tzSpec tzF)] := specsOk_cons Try.func15 (by kernel_rfl) (by kernel_rfl) chk_runs (specsOk_cons Try.func16 (by kernel_rfl) (by kernel_rfl) tz_runs specsOk_nil)
  generalize hchk : chkF = chk at h1
  generalize hcnt : tzF = tz at h1
  refine runs_of_walk (s := firstSpec firstF) tabOk h1 Try.func12 rfl (Nat.le_of_ble_eq_true rfl) rfl ?_
  rintro E ⟨⟨(n : Int), (m : Int), ⟨⟩⟩, ⟨⟩⟩ A L hP hpre hw hA hL
  refine ⟨?_⟩
  generalize hnext : firstF = first
  cbv
  subst hA
  simp only [real0, cmpR]
  dsimp only [PT.den, PT.denL] at *
  subst hchk hcnt hnext
  have hc1 : ∀ v, chkF v = 0 ∨ chkF v = 1 := fun v => by unfold chkF; split <;> simp
  refine ⟨fun h => ?_, fun h => ?_⟩
  · have k1 : ¬ chkF (n, (m : Int), ()) = 0 := by simpa using h
    have k3 := (hc1 (n, (m : Int), ())).resolve_left k1
    refine pair2 ?_
    simp only [firstF, k3]
    rfl
  · have k1 : chkF (n, (m : Int), ()) = 0 := by simpa using h
    refine pair2 ?_
    simp only [firstF, k1, if_true]

theorem rest_runs (restF : Int → Int → Int) (hr : restF = fun n m => if m ≤ 0 then 0 else arR .rem .i64 (arR .add .i64 (arR .rem .i64 n m) m) m) : SpecRuns Try.prog 13 (restSpec restF) := by
  refine runs_of_walk (s := restSpec restF) tabOk specsOk_nil Try.func13 rfl (Nat.le_of_ble_eq_true rfl) rfl ?_
  rintro E ⟨(n : Int), (m : Int), ⟨⟩⟩ A L hP hpre hw hA hL
  refine ⟨?_⟩
  cbv
  subst hA
  simp only [real0, cmpR]
  dsimp only [PT.den, PT.denL] at *
  subst hr
  refine ⟨fun h => pair1 ?_, fun h => ?_⟩
  · have h : m ≤ 0 := by simpa using h
    simp only [h, if_true]
  · have h : ¬ m ≤ 0 := by simpa using h
    refine ⟨by omega, by omega, pair1 ?_⟩
    simp only [h, if_false]

/-! ### Plain laws -/
theorem pc_join : ∀ x, x < 64 → ∀ y, y < 64 → x &&& y = 0 → pc (x ||| y) = pc x + pc y := by decide +kernel
theorem pc_sub : ∀ x, x < 64 → ∀ y, y < 64 → x &&& y = x → pc x ≤ pc y := by decide +kernel
theorem pc_part : ∀ m, m < 64 → ∀ g, g < 64 → pc (stayN m g) + pc (stayN m (stayN 63 g)) = pc m := by decide +kernel
theorem stay_out : ∀ g, g < 64 → (255 - g) &&& g = 0 := by decide +kernel
theorem in_stay : ∀ c, c < 64 → ∀ w, w < 64 → c &&& w = c → stayN c w = 0 := by decide +kernel
theorem tz_at : ∀ w, w < 64 → 1 ≤ w → w / 2 ^ tzN w &&& 1 = 1 := by decide +kernel
theorem tz_lt : ∀ w, w < 64 → tzN w ≤ 8 := by decide +kernel
theorem pc_zero : pc 0 = 0 := rfl
theorem chk_zero {v : Int × Int × Unit} (h : chkF v = 0) : (0 ≤ v.1 ∧ v.1 ≤ 16777215) ∧ ∃ m : Nat, v.2.1 = m ∧ 1 ≤ m ∧ m < 64 := by
  simp only [chkF] at h
  split at h
  · rename_i h1
    exact ⟨h1.1, v.2.1.toNat, by omega, by omega, by omega⟩
  · omega
theorem pc_meet {v x y : Nat} (hv : v < 64) (hx : x < 64) (hy : y < 64) (h1 : pc v < 2 * pc (v &&& x)) (h2 : pc v < 2 * pc (v &&& y)) : (x &&& y) &&& v ≠ 0 := by
  intro h
  have hvx : v &&& x < 64 := Nat.lt_of_le_of_lt Nat.and_le_left hv
  have hvy : v &&& y < 64 := Nat.lt_of_le_of_lt Nat.and_le_left hv
  have e : (v &&& x) &&& (v &&& y) = 0 := by
    rw [← h]
    apply Nat.eq_of_testBit_eq; intro i
    simp only [Nat.testBit_and]
    cases v.testBit i <;> cases x.testBit i <;> cases y.testBit i <;> rfl
  have h3 := pc_join _ hvx _ hvy e
  have h4 := pc_sub ((v &&& x) ||| (v &&& y)) (Nat.or_lt_two_pow (n := 6) hvx hvy) v hv (by
    apply Nat.eq_of_testBit_eq; intro i
    simp only [Nat.testBit_and, Nat.testBit_or]
    cases v.testBit i <;> cases x.testBit i <;> cases y.testBit i <;> rfl)
  omega

/-- What the next view is. -/
theorem next_ok {v w : Int × Int × Unit} {g c : Nat} (hg : g < 256) (hc : c < 256) (h : nextF v (g : Int) (c : Int) = (w, 0)) : chkF v = 0 ∧ chkF w = 0 ∧ g < 64 ∧ c < 64 ∧ g &&& c = 0 ∧ w.1 = v.1 + 1 ∧
    ∃ m : Nat, v.2.1 = m ∧ m < 64 ∧ w.2.1 = ((stayN m g ||| c : Nat) : Int) ∧ stayN m g ||| c < 64 ∧ 1 ≤ (stayN m g ||| c) ∧ pc m < 2 * pc (stayN m g) := by
  simp only [nextF] at h
  split at h
  case isFalse => simp at h
  rename_i h1
  split at h
  case isFalse => simp at h
  rename_i h2
  split at h
  · simp at h
  rename_i h3
  split at h
  · simp at h
  rename_i h4
  obtain ⟨k1, m, k2, k3, k4⟩ := chk_zero h1
  have kt : v.2.1.toNat = m := by omega
  simp only [Int.toNat_natCast, kt] at h2 h4 h
  obtain ⟨h2, h5⟩ := h2
  have hgl : g ≤ g ||| c := Nat.left_le_or
  have hcl : c ≤ g ||| c := Nat.right_le_or
  obtain rfl : _ = w := (Prod.mk.inj h).1
  have hs : stayN m g ≤ m := Nat.and_le_left
  have hlt : stayN m g ||| c < 64 := Nat.or_lt_two_pow (n := 6) (by omega) (by omega)
  have hpos : 1 ≤ (stayN m g ||| c) := by
    rcases Nat.eq_zero_or_pos (stayN m g ||| c) with e | e
    · have e1 : stayN m g ≤ stayN m g ||| c := Nat.left_le_or
      have e2 : stayN m g = 0 := by omega
      rw [e2, pc_zero] at h4
      omega
    · exact e
  refine ⟨h1, ?_, by omega, by omega, h5, rfl, m, k2, k4, rfl, hlt, hpos, by omega⟩
  simp only [chkF]
  rw [if_pos (by omega)]
theorem meets (v a b : Int × Int × Unit) (h1 : (folF v a).2 = 0) (h2 : (folF v b).2 = 0) (h3 : (folF v a).1 = true) (h4 : (folF v b).1 = true) : ∃ m x y : Nat, v.2.1 = m ∧ a.2.1 = x ∧ b.2.1 = y ∧ m < 64 ∧ x < 64 ∧ y < 64 ∧ (x &&& y) &&& m ≠ 0 ∧ a.1 = b.1 := by
  simp only [folF] at h1 h2 h3 h4
  split at h1
  case isFalse => simp at h1
  rename_i k1
  rw [if_pos k1] at h3
  split at h2
  case isFalse => simp at h2
  rename_i k2
  rw [if_pos k2] at h4
  obtain ⟨_, m, e1, _, l1⟩ := chk_zero k1.1
  obtain ⟨_, x, e2, _, l2⟩ := chk_zero k1.2
  obtain ⟨_, y, e3, _, l3⟩ := chk_zero k2.2
  simp only [decide_eq_true_eq, e1, e2, e3, Int.toNat_natCast] at h3 h4
  exact ⟨m, x, y, e1, e2, e3, l1, l2, l3, pc_meet l1 l2 l3 h3.2 h4.2, by omega⟩

theorem meets_runs : SpecRuns Try.prog 3 (lawSpec [VT, VT, VT]) := by
  have h1 : SpecsOk Try.prog [(10, folSpec folF)] := specsOk_cons Try.func10 (by kernel_rfl) (by kernel_rfl) fol_runs specsOk_nil
  generalize hfol : folF = fol at h1
  refine runs_of_walk (s := lawSpec [VT, VT, VT]) tabOk h1 Try.func3 rfl (Nat.le_of_ble_eq_true rfl) rfl ?_
  rintro E ⟨⟨(n : Int), (m : Int), ⟨⟩⟩, ⟨(n2 : Int), (m2 : Int), ⟨⟩⟩, ⟨(n3 : Int), (m3 : Int), ⟨⟩⟩, ⟨⟩⟩ A L hP hpre hw hA hL
  refine ⟨?_⟩
  cbv
  subst hA
  simp only [real0, cmpR]
  dsimp only [PT.den, PT.denL] at *
  subst hfol
  refine ⟨fun h => absurd h (by decide +kernel), fun _ => ⟨fun h => absurd h (by decide +kernel), fun _ => pair1 ?_⟩⟩
  by_cases c1 : (folF (n, m, ()) (n2, m2, ())).2 = 0
  case neg => simp [c1]
  by_cases c2 : (folF (n, m, ()) (n3, m3, ())).2 = 0
  case neg => simp [c2]
  by_cases c3 : (folF (n, m, ()) (n2, m2, ())).1 = true
  case neg => simp [c3]
  by_cases c4 : (folF (n, m, ()) (n3, m3, ())).1 = true
  case neg => simp [c4]
  obtain ⟨m', x, y, e1, e2, e3, l1, l2, l3, hne, hn⟩ := meets _ _ _ c1 c2 c3 c4
  dsimp only at e1 e2 e3 hn
  subst e1 e2 e3 hn
  have hxy : x &&& y ≤ x := Nat.and_le_left
  rw [and_N (k := .u8) (le_u8 (by omega)) (le_u8 (by omega)), and_N (k := .u8) (le_u8 (by omega)) (le_u8 (by omega))]
  simp [hne]
theorem split_runs : SpecRuns Try.prog 4 (lawSpec [VT, .int .u8]) := by
  have h1 : SpecsOk Try.prog [(11, nextSpec nextF)] := specsOk_cons Try.func11 (by kernel_rfl) (by kernel_rfl) next_runs specsOk_nil
  generalize hnext : nextF = next at h1
  refine runs_of_walk (s := lawSpec [VT, .int .u8]) tabOk h1 Try.func4 rfl (Nat.le_of_ble_eq_true rfl) rfl ?_
  rintro E ⟨⟨(n : Int), (m : Int), ⟨⟩⟩, (g : Int), ⟨⟩⟩ A L hP hpre hw hA hL
  refine ⟨?_⟩
  cbv
  subst hA
  simp only [real0, cmpR]
  dsimp only [PT.den, PT.denL] at *
  subst hnext
  refine ⟨fun h => absurd h (by decide +kernel), fun _ => ⟨fun h => absurd h (by decide +kernel), fun _ => pair1 ?_⟩⟩
  simp only [WfA, lawSpec, Wf, WfL, List.map] at hw
  obtain ⟨g, rfl, hg⟩ := u8_nat (m := g) hw.2.1
  have e63 : (63 : Int) = ((63 : Nat) : Int) := rfl
  have hg1 : g &&& 63 < 64 := Nat.lt_of_le_of_lt Nat.and_le_right (by decide)
  rw [e63, and_N (k := .u8) (le_u8 hg) (le_u8 (by decide)), andNot_N (k := .u8) (le_u8 (by decide)) (le_u8 (by omega))]
  rw [show 63 &&& (2 ^ IntKind.bits .u8 - 1 - (g &&& 63)) = stayN 63 (g &&& 63) from rfl]
  have hs : stayN 63 (g &&& 63) ≤ 63 := Nat.and_le_left
  by_cases c1 : (nextF (n, m, ()) ((g &&& 63 : Nat) : Int) 0).2 = 0
  case neg => simp [c1]
  by_cases c2 : (nextF (n, m, ()) ((stayN 63 (g &&& 63) : Nat) : Int) 0).2 = 0
  case neg => simp [c2]
  obtain ⟨w1, hw1⟩ : ∃ w, nextF (n, m, ()) ((g &&& 63 : Nat) : Int) ((0 : Nat) : Int) = (w, 0) := ⟨_, Prod.ext rfl c1⟩
  obtain ⟨w2, hw2⟩ : ∃ w, nextF (n, m, ()) ((stayN 63 (g &&& 63) : Nat) : Int) ((0 : Nat) : Int) = (w, 0) := ⟨_, Prod.ext rfl c2⟩
  obtain ⟨_, _, _, _, _, _, m1, e1, l1, _, _, _, p1⟩ := next_ok (by omega) (by decide) hw1
  obtain ⟨_, _, _, _, _, _, m2, e2, l2, _, _, _, p2⟩ := next_ok (by omega) (by decide) hw2
  have hm : m1 = m2 := by omega
  subst hm
  have := pc_part m1 l1 (g &&& 63) hg1
  omega

theorem vnext_runs : SpecRuns Try.prog 6 (lawSpec [VT, .int .u8, .int .u8]) := by
  have h1 : SpecsOk Try.prog [(10, folSpec folF), (12, firstSpec firstF), (16, tzSpec tzF), (11, nextSpec nextF)] :=
    specsOk_cons Try.func10 (by kernel_rfl) (by kernel_rfl) fol_runs (specsOk_cons Try.func12 (by kernel_rfl) (by kernel_rfl) first_runs (specsOk_cons Try.func16 (by kernel_rfl) (by kernel_rfl) tz_runs (specsOk_cons Try.func11 (by kernel_rfl) (by kernel_rfl) next_runs specsOk_nil)))
  generalize hnext : nextF = next at h1
  generalize hfol : folF = fol at h1
  generalize hfirst : firstF = first at h1
  generalize htz : tzF = tz at h1
  refine runs_of_walk (s := lawSpec [VT, .int .u8, .int .u8]) tabOk h1 Try.func6 rfl (Nat.le_of_ble_eq_true rfl) rfl ?_
  rintro E ⟨⟨(n : Int), (m0 : Int), ⟨⟩⟩, (g : Int), (c : Int), ⟨⟩⟩ A L hP hpre hw hA hL
  refine ⟨?_⟩
  cbv
  subst hA
  simp only [real0, cmpR]
  dsimp only [PT.den, PT.denL] at *
  subst hnext hfol hfirst htz
  simp only [WfA, lawSpec, Wf, WfL, List.map] at hw
  obtain ⟨g, rfl, hg⟩ := u8_nat (m := g) hw.2.1
  obtain ⟨c, rfl, hc⟩ := u8_nat (m := c) hw.2.2.1
  refine ⟨fun h => absurd h (by decide +kernel), fun _ => ⟨fun h => pair1 ?_, fun h => ?_⟩⟩
  · have h : (nextF (n, m0, ()) (g : Int) (c : Int)).2 ≠ 0 := by simpa using h
    simp only [nextF] at h ⊢
    split
    · rename_i k1
      rw [if_pos k1] at h
      split
      · rename_i k2
        rw [if_pos k2] at h
        split
        · rfl
        · rename_i k3
          rw [if_neg k3] at h
          split
          · rfl
          · rename_i k4
            rw [if_neg k4] at h
            simp at h
      · rfl
    · rfl
  · have h : (nextF (n, m0, ()) (g : Int) (c : Int)).2 = 0 := by simpa using h
    obtain ⟨⟨wn, wm, ⟨⟩⟩, hwq⟩ : ∃ w, nextF (n, m0, ()) (g : Int) (c : Int) = (w, 0) := ⟨_, Prod.ext rfl h⟩
    obtain ⟨k1, k2, k3, k4, k5, k6, m, e1, l1, e2, l2, p1, p2⟩ := next_ok hg hc hwq
    simp only [hwq] at *
    replace k6 : wn = n + 1 := k6
    replace e1 : m0 = (m : Int) := e1
    replace e2 : wm = ((stayN m g ||| c : Nat) : Int) := e2
    subst k6 e1 e2
    generalize hW : stayN m g ||| c = W at *
    have hsl : stayN m g < 64 := Nat.lt_of_le_of_lt Nat.and_le_left l1
    have f1 : folF (n, (m : Int), ()) (n + 1, (W : Int), ()) = (true, 0) := by
      simp only [folF]
      rw [if_pos ⟨k1, k2⟩]
      have : pc (stayN m g) ≤ pc (m &&& W) := by
        refine pc_sub _ hsl _ (Nat.lt_of_le_of_lt Nat.and_le_left l1) ?_
        rw [← hW]
        unfold stayN
        apply Nat.eq_of_testBit_eq; intro i
        simp only [Nat.testBit_and, Nat.testBit_or]
        cases m.testBit i <;> cases (255 - g).testBit i <;> cases c.testBit i <;> rfl
      simp only [Int.toNat_natCast]
      congr 1
      simp only [decide_eq_true_eq]
      exact ⟨trivial, by omega⟩
    have f2 : firstF (n + 1, (W : Int), ()) = ((tzN W : Int), 0) := by
      simp only [firstF]
      rw [if_pos k2]
      rfl
    have f3 : arR .and .u8 (W : Int) (g : Int) = 0 := by
      rw [and_N (k := .u8) (le_u8 (by omega)) (le_u8 hg)]
      have : W &&& g = 0 := by
        rw [← hW, Nat.and_or_distrib_right]
        have z1 : c &&& g = 0 := by rw [Nat.and_comm]; exact k5
        have z2 : stayN m g &&& g = 0 := by
          unfold stayN
          rw [Nat.and_assoc, stay_out g k3, Nat.and_zero]
        rw [z1, z2]; rfl
      rw [this]; rfl
    have f4 : arR .andNot .u8 (c : Int) (W : Int) = 0 := by
      rw [andNot_N (k := .u8) (le_u8 hc) (le_u8 (by omega))]
      have : stayN c W = 0 := in_stay c k4 W l2 (by
        rw [← hW]
        apply Nat.eq_of_testBit_eq; intro i
        simp only [Nat.testBit_and, Nat.testBit_or]
        cases c.testBit i <;> cases (stayN m g).testBit i <;> rfl)
      show ((stayN c W : Nat) : Int) = 0
      rw [this]; rfl
    have f5 : arR .and .u8 (arR .shr .u8 (W : Int) (tzN W : Int)) 1 = 1 := by
      rw [shr_N (k := .u8) (tz_lt W l2), show (1 : Int) = ((1 : Nat) : Int) from rfl, and_N (k := .u8) (le_u8 (Nat.lt_of_le_of_lt (Nat.div_le_self _ _) (by omega))) (by decide), tz_at W l2 p1]
    simp only [f1, f2, f3, f4, f5]
    refine ⟨fun _ => by omega, fun _ => trivial, pair1 ?_⟩
    simp [tzF]

end Go.Proofs.Ytofccajdoekjgaa.View
