/- What the law PulseFew runs: it returns true for all arguments. -/
import Derived.Test.YtofccajdoekjgaaPulseE
set_option maxHeartbeats 1000000
set_option maxRecDepth 20000
set_option linter.unusedSimpArgs false
set_option linter.unusedVariables false
namespace Go.Proofs.Ytofccajdoekjgaa.PulseT
open Go Go.Proofs.Ytofccajdoekjgaa.Sy Go.Proofs
theorem few_ret {e m w : Int} (hm : 0 ≤ m ∧ m ≤ 100) (hw : 0 ≤ w ∧ w ≤ 100) (h : e ≤ 0 ∨ e ≤ m - w) : decide (e ≤ real0.mx 0 (arR .sub .i64 m w)) = true := by
  show decide (e ≤ if arR .sub .i64 m w > 0 then arR .sub .i64 m w else 0) = true
  rw [sub_i64 (by omega)]
  refine decide_eq_true ?_
  split <;> omega
theorem few_lt {N : Nat} {i e : Int} (h : i < N) (he : e = i + 1) : ((N : Int) - e).toNat < ((N : Int) - i).toNat := by omega
theorem few_le {N : Nat} {i : Int} (h : i < N) (h2 : N ≤ 4294967296) : i + 1 ≤ 4294967296 := by omega
theorem fewlaw_runs : SpecRuns Try.prog 9 (lawSpec [.int .i64, .list (.int .i64), .int .i64]) := by
  have h1 : SpecsOk Try.prog [(18, newSpec newF), (19, tickSpec tickF), (23, hearSpec hearF), (21, hasSpec hasF), (13, restSpec restF), (22, fewSpec fewF)] :=
    specsOk_cons Try.func18 (by kernel_rfl) (by kernel_rfl) new_runs (specsOk_cons Try.func19 (by kernel_rfl) (by kernel_rfl) tick_runs (specsOk_cons Try.func23 (by kernel_rfl) (by kernel_rfl) hear_runs (specsOk_cons Try.func21 (by kernel_rfl) (by kernel_rfl) has_runs (specsOk_cons Try.func13 (by kernel_rfl) (by kernel_rfl) (rest_runs restF rfl) (specsOk_cons Try.func22 (by kernel_rfl) (by kernel_rfl) few_runs specsOk_nil)))))
  obtain ⟨new, hnew⟩ : ∃ c : Int → Int → UD × Int, c = newF := ⟨_, rfl⟩
  obtain ⟨tick, htick⟩ : ∃ c : UD → UD × List Int × Int, c = tickF := ⟨_, rfl⟩
  obtain ⟨hear, hhear⟩ : ∃ c : UD → Int → UD × Bool × Int, c = hearF := ⟨_, rfl⟩
  obtain ⟨has, hhas⟩ : ∃ c : List Int → Int → Bool, c = hasF := ⟨_, rfl⟩
  obtain ⟨rest, hrest⟩ : ∃ c : Int → Int → Int, c = restF := ⟨_, rfl⟩
  obtain ⟨few, hfew⟩ : ∃ c : Int → Int, c = fewF := ⟨_, rfl⟩
  rw [← hnew, ← htick, ← hhear, ← hhas, ← hrest, ← hfew] at h1
  refine runs_of_walk (s := lawSpec [.int .i64, .list (.int .i64), .int .i64]) tabOk h1 Try.func9 rfl (Nat.le_of_ble_eq_true rfl) rfl ?_
  rintro E ⟨(wait : Int), (gaps : List Int), (most : Int), ⟨⟩⟩ A0 L hP hpre hw hA0 hL
  simp only [WfA, lawSpec, Wf, WfL, List.map] at hw
  refine walk_seq hA0 hL fun M0 hM0 => ⟨?_⟩
  cbv
  refine hM0 _ (walk_seq hA0 hL fun M1 hM1 => ⟨?_⟩)
  clear hM0 M0
  cbv
  refine ⟨by subst hA0; exact imp_intro rfl fun _ => ⟨by decide, by decide⟩, ?_⟩
  refine ite_intro hA0 (fun hc => ?_) (fun hc => ?_)
  · exfalso
    subst hA0 hnew
    exact absurd hc (by decide +kernel)
  clear hc
  obtain ⟨r0, r1⟩ := rest_in wait 6 (by omega) (by omega)
  obtain ⟨s0, s1⟩ := rest_in most 12 (by omega) (by omega)
  obtain ⟨w, hwe⟩ : ∃ w : Int, w = few wait := ⟨_, rfl⟩
  obtain ⟨m, hme⟩ : ∃ m : Int, m = A0.ar .add .i64 (rest most 12) 1 := ⟨_, rfl⟩
  have hww : w = restF wait 6 + 1 := by subst hwe hfew; exact add_i64 (by omega)
  have hmm : m = restF most 12 + 1 := by subst hme hA0 hrest; exact add_i64 (by omega)
  have hnw := (new_ok (w := w) (by omega) (by omega)).1
  refine hM1 _ (walk_seq hA0 hL fun M2 hM2 => ⟨?_⟩)
  clear hM1 M1
  cbv
  refine hM2 _ (walk_seq hA0 hL fun M3 hM3 => ⟨?_⟩)
  clear hM2 M2
  cbv
  refine hM3 _ (walk_seq hA0 hL fun M4 hM4 => ⟨?_⟩)
  clear hM3 M3
  cbv
  refine ite_intro hA0 (fun hc => ?_) (fun hc => ?_)
  · exfalso
    subst hA0 hnew
    rw [hwe] at hnw
    have e : (newF 0 (few wait)).2 = 0 := congrArg Prod.snd hnw
    have hc : ((newF 0 (few wait)).2 != 0) = true := hc
    rw [e] at hc
    exact absurd hc (by decide)
  clear hc
  refine hM4 _ (walk_seq hA0 hL fun M5 hM5 => ⟨?_⟩)
  clear hM4 M4
  cbv
  refine hM5 _ (walk_seq hA0 hL fun M6 hM6 => ⟨?_⟩)
  clear hM5 M5
  cbv
  have hst : FewD w m (List.length (α := Int) gaps) ((new 0 (few wait)).1, 0, 0) := by
    rw [hnew, ← hwe]; exact few_start (by omega) (by omega)
  obtain ⟨N, hN⟩ : ∃ N : Nat, N = List.length (α := Int) gaps := ⟨_, rfl⟩
  have hll : N ≤ 4294967296 := by rw [hN]; exact hw.2.1.1
  rw [← hN] at hst
  refine loop_w (P := Try.prog) hP hA0 hL tabOk h1 [] [9, 11, 46] (fun x : UV × Int × Int => [(9, .val (.box UT) (.b .n) x.1), (11, .val (.int .i64) .n x.2.1), (46, .val (.int .i64) .n x.2.2)]) (FewD w m N) (fun x => ((N : Int) - x.2.2).toNat) ((new 0 (few wait)).1, 0, 0) (by cbv) hst (by cbv) ?_
  rintro ⟨p, d, i⟩ hD A hA R hR
  refine walk_seq hA hL fun M7 hM7 => ⟨?_⟩
  cbv
  refine hM7 _ (walk_seq hA hL fun M8 hM8 => ⟨?_⟩)
  clear hM7 M7
  cbv
  have hlen : A.len (.int .i64) gaps = N := by subst hA hN; rfl
  have hlen0 : A0.len (.int .i64) gaps = N := by subst hA0 hN; rfl
  obtain ⟨⟨i0, i1⟩, hG, hl1, hd1, dd0, dd1⟩ := id hD
  dsimp only at i0 i1 hl1 hd1 dd0 dd1
  refine ite_intro hA (fun hlt => ?_) (fun hge => ?_)
  · skip
    have hi : i < (N : Int) := by
      rw [← hlen0]; subst hA; exact of_decide_eq_true hlt
    have hin : A.inb i (A.len (.int .i64) gaps) := by rw [hlen]; subst hA; exact ⟨i0, hi⟩
    obtain ⟨t0, t1⟩ := rest_in (A.get (.int .i64) gaps i) m (by omega) (by omega)
    obtain ⟨n, hne⟩ : ∃ n : Int, n = A.ar .add .i64 (rest (A.get (.int .i64) gaps i) (A0.ar .add .i64 (rest most 12) 1)) 1 := ⟨_, rfl⟩
    have hnn : n = restF (A.get (.int .i64) gaps i) m + 1 := by rw [hne, ← hme, hrest]; subst hA; exact add_i64 (by omega)
    refine hM8 _ (walk_seq hA hL fun M9 hM9 => ⟨?_⟩)
    clear hM8 M8
    cbv
    refine ⟨hin, ?_⟩
    refine loop_w (P := Try.prog) hP hA hL tabOk h1 [] [9, 11, 54] (fun y : UV × Int × Int => [(9, .val (.box UT) (.b .n) y.1), (11, .val (.int .i64) .n y.2.1), (54, .val (.int .i64) .n y.2.2)]) (FewI w n d p.2.1) (fun y => (n - y.2.2).toNat) (p, d, 0) (by cbv) (few_gap (by omega) (by omega) hD) (by cbv) ?_
    rintro ⟨q, e, j⟩ hI A' hA' R' hR'
    refine walk_seq hA' hL fun M10 hM10 => ⟨?_⟩
    cbv
    refine hM10 _ (walk_seq hA' hL fun M11 hM11 => ⟨?_⟩)
    clear hM10 M10
    cbv
    obtain ⟨⟨j0, j1⟩, hG', hl2, hd2, hd3, hd4⟩ := id hI
    dsimp only at j0 j1 hl2 hd2 hd3 hd4
    refine ite_intro hA' (fun hlt' => ?_) (fun hge' => ?_)
    · skip
      have hj : j < n := by rw [hne]; subst hA'; exact of_decide_eq_true hlt'
      have hT := few_tick (by omega) dd0 hI hj
      have e1 : A'.ar .add .i64 j 1 = j + 1 := by subst hA'; exact add_i64 (by omega)
      have e2 : A'.ar .add .i64 e 1 = e + 1 := by subst hA'; exact add_i64 (by split at hd4 <;> omega)
      refine hM11 _ (walk_seq hA' hL fun M12 hM12 => ⟨?_⟩)
      clear hM11 M11
      cbv
      refine ite_intro hA' (fun hb8 => ?_) (fun hb8 => ?_)
      · have := few_ret (e := e) (m := m) (w := w) (by omega) (by omega) (by split at hd4 <;> omega)
        refine pair1 ?_
        subst hA' hA0 hme hwe
        exact this
      have hT := hT.resolve_left (fun h => by subst hA' htick; exact absurd (hb8.symm.trans (show ((tickF q).2.2 == 8) = true by rw [h]; rfl)) (by simp))
      clear hb8
      refine ite_intro hA' (fun hb9 => ?_) (fun hb9 => ?_)
      · exfalso
        subst hA' htick
        have hb9 : ((tickF q).2.2 != 0) = true := hb9
        rw [hT.1] at hb9
        exact absurd hb9 (by decide)
      clear hb9
      have hT := hT.2
      refine ite_intro hA' (fun hb => ?_) (fun hb => ?_)
      · have hb : hasF (tickF q).2.1 1 = true := by subst htick hhas; exact hb
        have hI2 : FewI w n d p.2.1 ((tick q).1, A'.ar .add .i64 e 1, A'.ar .add .i64 j 1) := by rw [e1, e2, htick]; rw [if_pos hb] at hT; exact hT
        refine hM12 _ ⟨?_⟩
        cbv
        refine hR' _ ((tick q).1, A'.ar .add .i64 e 1, A'.ar .add .i64 j 1) hI2 ?_ (by cbv)
        show (n - A'.ar .add .i64 j 1).toNat < (n - j).toNat
        omega
      · have hb : ¬ hasF (tickF q).2.1 1 = true := by subst htick hhas; intro h; exact absurd (h.symm.trans hb) (by simp)
        have hI2 : FewI w n d p.2.1 ((tick q).1, e, A'.ar .add .i64 j 1) := by rw [e1, htick]; rw [if_neg hb] at hT; exact hT
        refine hM12 _ ⟨?_⟩
        cbv
        refine hR' _ ((tick q).1, e, A'.ar .add .i64 j 1) hI2 ?_ (by cbv)
        show (n - A'.ar .add .i64 j 1).toNat < (n - j).toNat
        omega
    · have hj : j = n := by
        have : ¬ j < n := by rw [hne]; subst hA'; exact of_decide_eq_false hge'
        omega
      rw [hj] at hI
      obtain ⟨k1, k2, k3⟩ := few_hear (m := m) (k := N) (i := i) (by omega) (by omega) (by omega) (by omega) i0 hi dd0 dd1 hI
      have hi3 : i + 1 ≤ 4294967296 := few_le hi hll
      have e3 : A.ar .add .i64 i 1 = i + 1 := by subst hA; exact add_i64 ⟨by show -9223372036854775808 ≤ i + 1; omega, by show i + 1 ≤ 9223372036854775807; omega⟩
      refine ⟨by subst hA; exact imp_intro rfl fun _ => ⟨by decide, by decide⟩, ite_intro hA (fun hb => ?_) (fun hb => ?_)⟩
      · exfalso
        subst hA hhear
        have hb : ((hearF q 1).2.2 != 0 || !PT.bool.eqb (hearF q 1).2.1 (q.2.2.2.2.1.getD 1 false)) = true := hb
        rw [k1, k2, bool_eqb] at hb
        simp at hb
      · refine hM9 _ ⟨?_⟩
        cbv
        refine hR _ ((hear q 1).1, e, A.ar .add .i64 i 1) (by rw [hhear, e3]; exact k3) ?_ (by cbv)
        show ((N : Int) - A.ar .add .i64 i 1).toNat < ((N : Int) - i).toNat
        exact few_lt hi e3
  · refine hM6 _ ⟨?_⟩
    cbv
    refine ⟨by subst hA0; exact imp_intro rfl fun _ => ⟨by decide, by decide⟩, pair1 ?_⟩
    have k1 := few_ret (e := d) (m := m) (w := w) (by omega) (by omega) dd1
    have k2 : p.2.2.2.1.getD 1 0 = w + d := hG.2.2.2.2.2
    have k3 : arR .add .i64 w d = w + d := add_i64 (by omega)
    have key : (decide (d ≤ real0.mx 0 (arR .sub .i64 m w)) && (p.2.2.2.1.getD 1 0 == arR .add .i64 w d)) = true := by
      rw [k1, k2, k3]; simp
    subst hA0 hme hwe
    exact key
end Go.Proofs.Ytofccajdoekjgaa.PulseT
