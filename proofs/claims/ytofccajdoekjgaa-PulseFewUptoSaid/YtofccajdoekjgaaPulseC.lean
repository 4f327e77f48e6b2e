/- What the law PulseDead runs: it returns true for all arguments. -/
import Derived.Test.YtofccajdoekjgaaPulseB
set_option maxHeartbeats 1000000
set_option maxRecDepth 20000
set_option linter.unusedSimpArgs false
set_option linter.unusedVariables false
namespace Go.Proofs.Ytofccajdoekjgaa.PulseT
open Go Go.Proofs.Ytofccajdoekjgaa.Sy Go.Proofs
theorem bne0 {A : Alg} (hA : A = real0) {x y : Int} (h : A.cmp .neq x y = true) : x ≠ y := by
  subst hA
  intro e
  have : (x != y) = true := h
  simp [e] at this
theorem beq0 {A : Alg} (hA : A = real0) {x y : Int} (h : A.cmp .neq x y = false) : x = y := by
  subst hA
  have : (x != y) = false := h
  simpa using this
theorem tick_eq {p : UV} (hc : chkF p = 0) (hn : p.2.1 < 16777215) : tickF p = ((p.1, p.2.1 + 1, p.2.2.1.set p.1.toNat (p.2.1 + 1), p.2.2.2.1, (List.range 6).map (fun j => p.2.2.2.2.1.getD j false || cond p j), ()), ((List.range 6).filter (cond p)).map Int.ofNat, 0) := by
  simp only [tickF, hc, if_true]
  rw [if_neg (by omega)]
theorem map_at (c : Nat → Bool) {j : Nat} (h : j < 6) : ((List.range 6).map c).getD j false = c j := by
  simp [List.getD_eq_getElem?_getD, h]
theorem has_tick (c : Nat → Bool) {j : Nat} (h : j < 6) : hasF (((List.range 6).filter c).map Int.ofNat) (j : Int) = c j := by
  rw [Bool.eq_iff_iff, has_iff]
  simp only [List.mem_map, List.mem_filter, List.mem_range]
  constructor
  · rintro ⟨i, ⟨_, h2⟩, h3⟩
    have : i = j := by have : ((i : Nat) : Int) = j := h3; omega
    rw [← this]; exact h2
  · intro h2
    exact ⟨j, ⟨h, h2⟩, rfl⟩
theorem tick_chk {p : UV} (hc : chkF p = 0) (hn : p.2.1 < 16777215) (hl : p.2.2.1.length = 6) : chkF (tickF p).1 = 0 := by
  obtain ⟨q1, q2, q3⟩ := chk_ok hc
  rw [tick_eq hc hn]
  refine ok_chk q1 ⟨by dsimp only; omega, by dsimp only; omega⟩ fun j hj => ?_
  obtain ⟨g1, g2, g3⟩ := q3 j hj
  dsimp only
  refine ⟨?_, g2, ?_⟩
  · rw [getD_setI (by omega)]
    split <;> omega
  · rw [map_at _ hj]
    intro hd
    simp only [Bool.or_eq_true] at hd
    rcases hd with hd | hd
    · exact g3 hd
    · simp only [cond, Bool.and_eq_true] at hd
      have := hd.1.1
      simpa using this
/-- Who is not the process itself. -/
theorem cond_at {p : UV} (hc : chkF p = 0) (hl : p.2.2.1.length = 6) {j : Nat} (hj : (j : Int) ≠ p.1) : cond p j = (!p.2.2.2.2.1.getD j false && decide (p.2.1 + 1 - p.2.2.1.getD j 0 > p.2.2.2.1.getD j 0)) := by
  obtain ⟨q1, _⟩ := chk_ok hc
  simp only [cond]
  rw [getD_setI (by omega), if_neg (by omega)]
  have : ((j : Int) != p.1) = true := by simpa using hj
  rw [this, Bool.true_and]
theorem bool_eqb (x y : Bool) : PT.bool.eqb x y = (x == y) := by simp only [PT.eqb]
theorem dead_runs : SpecRuns Try.prog 8 (lawSpec [UT, .int .i64, .int .i64]) := by
  have h1 : SpecsOk Try.prog [(18, newSpec newF), (19, tickSpec tickF), (20, chkSpec chkF), (21, hasSpec hasF), (13, restSpec restF)] :=
    specsOk_cons Try.func18 (by kernel_rfl) (by kernel_rfl) new_runs (specsOk_cons Try.func19 (by kernel_rfl) (by kernel_rfl) tick_runs (specsOk_cons Try.func20 (by kernel_rfl) (by kernel_rfl) chk_runs (specsOk_cons Try.func21 (by kernel_rfl) (by kernel_rfl) has_runs (specsOk_cons Try.func13 (by kernel_rfl) (by kernel_rfl) (rest_runs restF rfl) specsOk_nil))))
  obtain ⟨new, hnew⟩ : ∃ c : Int → Int → UD × Int, c = newF := ⟨_, rfl⟩
  obtain ⟨tick, htick⟩ : ∃ c : UD → UD × List Int × Int, c = tickF := ⟨_, rfl⟩
  obtain ⟨chk, hchk⟩ : ∃ c : UD → Int, c = chkF := ⟨_, rfl⟩
  obtain ⟨has, hhas⟩ : ∃ c : List Int → Int → Bool, c = hasF := ⟨_, rfl⟩
  obtain ⟨rest, hrest⟩ : ∃ c : Int → Int → Int, c = restF := ⟨_, rfl⟩
  rw [← hnew, ← htick, ← hchk, ← hhas, ← hrest] at h1
  refine runs_of_walk (s := lawSpec [UT, .int .i64, .int .i64]) tabOk h1 Try.func8 rfl (Nat.le_of_ble_eq_true rfl) rfl ?_
  rintro E ⟨⟨(me : Int), (now : Int), (last : List Int), (wait : List Int), (doubt : List Bool), ⟨⟩⟩, (who : Int), (n : Int), ⟨⟩⟩ A0 L hP hpre hw hA0 hL
  simp only [WfA, lawSpec, Wf, WfL, List.map] at hw
  have ll : List.length (α := Int) last = 6 := hw.1.2.2.1.1
  have lw : List.length (α := Int) wait = 6 := hw.1.2.2.2.1.1
  have ld : List.length (α := Bool) doubt = 6 := hw.1.2.2.2.2.1.1
  refine walk_seq hA0 hL fun M0 hM0 => ⟨?_⟩
  cbv
  refine hM0 _ (walk_seq hA0 hL fun M1 hM1 => ⟨?_⟩)
  clear hM0 M0
  cbv
  refine hM1 _ (walk_seq hA0 hL fun M2 hM2 => ⟨?_⟩)
  clear hM1 M1
  cbv
  refine ite_intro hA0 (fun hc => ?_) (fun hc => ?_)
  · exfalso
    subst hA0 hnew
    exact absurd hc (by decide +kernel)
  clear hc
  refine hM2 _ (walk_seq hA0 hL fun M3 hM3 => ⟨?_⟩)
  clear hM2 M2
  cbv
  refine hM3 _ (walk_seq hA0 hL fun M4 hM4 => ⟨?_⟩)
  clear hM3 M3
  cbv
  refine ite_intro hA0 (fun hc => ?_) (fun hc => ?_)
  · exfalso
    subst hA0 hnew htick
    exact absurd hc (by decide +kernel)
  clear hc
  refine hM4 _ (walk_seq hA0 hL fun M5 hM5 => ⟨?_⟩)
  clear hM4 M4
  cbv
  refine ite_intro hA0 (fun hc => rfl) (fun hc => ?_)
  have hck : chkF (me, now, last, wait, doubt, ()) = 0 ∧ now ≤ 100000 := by
    subst hA0 hchk
    simp only [real0, cmpR] at hc
    dsimp only [PT.den, PT.denL] at hc
    simpa using hc
  clear hc
  refine hM5 _ (walk_seq hA0 hL fun M6 hM6 => ⟨?_⟩)
  clear hM5 M5
  cbv
  refine hM6 _ (walk_seq hA0 hL fun M7 hM7 => ⟨?_⟩)
  clear hM6 M6
  cbv
  refine ite_intro hA0 (fun hc => rfl) (fun hc => ?_)
  have hwm : restF who 6 ≠ me := by
    subst hA0 hrest
    simp only [real0, cmpR] at hc
    simpa using hc
  clear hc
  have hwm : (restF who 6 : Int) ≠ (me : Int) := hwm
  obtain ⟨q1, q2, q3⟩ := chk_ok hck.1
  dsimp only at q1 q2 q3
  obtain ⟨r0, r1⟩ := rest_in who 6 (by omega) (by omega)
  obtain ⟨wh, hwh⟩ : ∃ w : Nat, restF who 6 = (w : Int) := ⟨(restF who 6).toNat, by omega⟩
  have hwm1 : (wh : Int) ≠ me := by rw [← hwh]; exact hwm
  have hwh6 : wh < 6 := by omega
  have hwt : wh ≠ Int.toNat me := fun e => hwm1 (by rw [e]; exact Int.toNat_of_nonneg q1.1)
  refine hM7 _ (walk_seq hA0 hL fun M8 hM8 => ⟨?_⟩)
  clear hM7 M7
  cbv
  have hin : 0 ≤ rest who 6 ∧ rest who 6 < Int.ofNat 6 := by rw [hrest]; exact ⟨r0, r1⟩
  refine ⟨by subst hA0; exact hin, by subst hA0; exact hin, ?_⟩
  refine hM8 _ (walk_seq hA0 hL fun M9 hM9 => ⟨?_⟩)
  clear hM8 M8
  cbv
  refine ⟨by subst hA0; exact hin, by subst hA0; exact hin, ?_⟩
  refine hM9 _ (walk_seq hA0 hL fun M10 hM10 => ⟨?_⟩)
  clear hM9 M9
  cbv
  obtain ⟨s0, s1⟩ := rest_in n 60 (by omega) (by omega)
  obtain ⟨w0, hw0⟩ : ∃ w : List Int, w = A0.set (.int .i64) wait (rest who 6) (A0.mn (A0.get (.int .i64) wait (rest who 6)) 40) := ⟨_, rfl⟩
  refine loop_w (P := Try.prog) hP hA0 hL tabOk h1 [] [3, 74] (fun x : UV × Int => [(3, .val (.box UT) (.b .n) x.1), (74, .val (.int .i64) .n x.2)])
    (fun x => (0 ≤ x.2 ∧ x.2 ≤ 60) ∧ chkF x.1 = 0 ∧ x.1.1 = me ∧ x.1.2.1 ≤ 100000 + x.2 ∧ x.1.2.2.1.length = 6 ∧ x.1.2.2.2.2.1.length = 6 ∧ x.1.2.2.2.1 = w0 ∧ x.1.2.2.1.getD wh 0 = last.getD wh 0) (fun x => (60 - x.2).toNat) ((me, now, last, w0, doubt, ()), 0) (by cbv) ?_ (by rw [hw0]; cbv) ?_
  · have hmin : ∀ j, j < 6 → 1 ≤ w0.getD j 0 ∧ w0.getD j 0 ≤ 1000 := by
      intro j hj
      have e : w0 = wait.set (restF who 6).toNat (if 40 < wait.getD (restF who 6).toNat 0 then 40 else wait.getD (restF who 6).toNat 0) := by
        rw [hw0]; subst hA0 hrest; rfl
      have h6 := (q3 j hj).2.1
      rw [e, getD_setI (by omega)]
      split
      · have h7 := (q3 (restF who 6).toNat (by omega)).2.1
        split <;> omega
      · exact h6
    exact ⟨⟨by dsimp only; omega, by dsimp only; omega⟩, ok_chk q1 q2 fun j hj => ⟨(q3 j hj).1, hmin j hj, (q3 j hj).2.2⟩, rfl, by dsimp only; omega, ll, ld, rfl, rfl⟩
  rintro ⟨⟨pm, pn, pl, pw, pd, ⟨⟩⟩, k⟩ ⟨⟨k0, k1⟩, kc, km, kn, kl, kd, kw, klw⟩ A hA R hR
  refine walk_seq hA hL fun M11 hM11 => ⟨?_⟩
  cbv
  refine hM11 _ (walk_seq hA hL fun M12 hM12 => ⟨?_⟩)
  clear hM11 M11
  cbv
  refine ite_intro hA (fun hlt => ?_) (fun hge => ?_)
  · skip
    refine hM12 _ (walk_seq hA hL fun M13 hM13 => ⟨?_⟩)
    clear hM12 M12
    cbv
    have hinA : A.inb (rest who 6) (Int.ofNat 6) := by subst hA; exact hin
    repeat (refine ⟨by first | exact imp_intro hA (fun _ => trivial) | exact imp_intro hA (fun _ => hinA) | exact imp_intro hA (fun _ => imp_intro hA fun _ => hinA) | exact imp_intro hA (fun _ => imp_intro hA fun _ => trivial), ?_⟩)
    have hk : k < 60 := by
      have : k < restF n 60 := by subst hA hrest; exact of_decide_eq_true hlt
      omega
    dsimp only at kc km kn kl kd kw klw k0 k1
    have hn' : pn < 16777215 := by omega
    have hT := tick_eq (p := (pm, pn, pl, pw, pd, ())) kc (by dsimp only; omega)
    have hC := tick_chk (p := (pm, pn, pl, pw, pd, ())) kc (by dsimp only; omega) kl
    have hca := cond_at (p := (pm, pn, pl, pw, pd, ())) kc kl (j := wh) (by dsimp only; rw [km]; exact hwm1)
    obtain ⟨p1, p2, p3⟩ := chk_ok kc
    dsimp only at hT hC hca p1 p2 p3
    have e1 : A.ar .add .i64 k 1 = k + 1 := by subst hA; exact add_i64 (by omega)
    refine ite_intro hA (fun hb => ?_) (fun hb => ?_)
    · exfalso
      have hb2 : ((tickF (pm, pn, pl, pw, pd, ())).2.2 != 0 || !PT.bool.eqb ((tickF (pm, pn, pl, pw, pd, ())).1.2.2.2.2.1.getD wh false) (pd.getD wh false || decide ((tickF (pm, pn, pl, pw, pd, ())).1.2.1 > arR .add .i64 (last.getD wh 0) (w0.getD wh 0))) ||
          !PT.bool.eqb (hasF (tickF (pm, pn, pl, pw, pd, ())).2.1 (wh : Int)) ((tickF (pm, pn, pl, pw, pd, ())).1.2.2.2.2.1.getD wh false && !pd.getD wh false)) = true := by
        have hr : rest who 6 = (wh : Int) := by rw [hrest]; exact hwh
        subst hA hA0 htick hhas
        rw [hr] at hw0 hb
        subst hw0
        exact hb
      have hlw := (p3 wh hwh6).1
      have hww := (p3 wh hwh6).2.1
      rw [klw] at hlw
      rw [kw] at hww
      rw [hT, bool_eqb, bool_eqb, has_tick _ hwh6] at hb2
      dsimp only at hb2
      rw [map_at _ hwh6, hca, klw, kw, add_i64 (by omega)] at hb2
      have hdd : decide (pn + 1 - last.getD wh 0 > w0.getD wh 0) = decide (pn + 1 > last.getD wh 0 + w0.getD wh 0) := by
        rw [decide_eq_decide]; omega
      rw [hdd] at hb2
      generalize pd.getD wh false = bx at hb2
      generalize decide (pn + 1 > last.getD wh 0 + w0.getD wh 0) = dy at hb2
      cases bx <;> cases dy <;> simp at hb2
    · clear hb
      refine hM13 _ ⟨?_⟩
      clear hM13 M13
      cbv
      have hq : tick (pm, pn, pl, pw, pd, ()) = tickF (pm, pn, pl, pw, pd, ()) := congrFun htick _
      refine hR _ ((tick (pm, pn, pl, pw, pd, ())).1, A.ar .add .i64 k 1) ⟨?_, ?_, ?_, ?_, ?_, ?_, ?_, ?_⟩ ?_ (by cbv)
      · show 0 ≤ A.ar .add .i64 k 1 ∧ A.ar .add .i64 k 1 ≤ 60
        omega
      · show chkF (tick (pm, pn, pl, pw, pd, ())).1 = 0
        rw [hq]; exact hC
      · show (tick (pm, pn, pl, pw, pd, ())).1.1 = me
        rw [hq, hT]; exact km
      · show @LE.le Int _ (tick (pm, pn, pl, pw, pd, ())).1.2.1 (100000 + A.ar .add .i64 k 1)
        rw [hq, hT]; show pn + 1 ≤ _; omega
      · show List.length (α := Int) (tick (pm, pn, pl, pw, pd, ())).1.2.2.1 = 6
        rw [hq, hT]; exact List.length_set.trans kl
      · show List.length (α := Bool) (tick (pm, pn, pl, pw, pd, ())).1.2.2.2.2.1 = 6
        rw [hq, hT]; simp
      · show (tick (pm, pn, pl, pw, pd, ())).1.2.2.2.1 = w0
        rw [hq, hT]; exact kw
      · show List.getD (α := Int) (tick (pm, pn, pl, pw, pd, ())).1.2.2.1 wh 0 = last.getD wh 0
        rw [hq, hT]
        show (pl.set pm.toNat (pn + 1)).getD wh 0 = _
        rw [getD_setI (by omega), if_neg (by rw [km]; first | exact hwt | exact hwt.symm)]
        exact klw
      · show (60 - A.ar .add .i64 k 1).toNat < (60 - k).toNat
        omega
  · refine hM10 _ ⟨?_⟩
    cbv
end Go.Proofs.Ytofccajdoekjgaa.PulseT
