/- The functions Check and Lead of package pulse. -/
import Derived.Test.YtofccajdoekjgaaSye
import Derived.Test.YtofccajdoekjgaaProg
import Derived.KernelRfl
set_option maxHeartbeats 1000000
set_option maxRecDepth 20000
set_option linter.unusedSimpArgs false
set_option linter.unusedVariables false
namespace Go.Proofs.Ytofccajdoekjgaa.PulseT
open Go Go.Proofs.Ytofccajdoekjgaa.Sy Go.Proofs
def tab : Tab := [none, none, some (.int .i64, true), some (.int .i64, true), some (.bool, true), some (.int .u8, true), some (.int .u8, true), none, none, some (.str, true), some (.str, true), some (.str, true), some (.int .u64, true), none, none, none, none, none, none, none, none, some (.int .i32, true), some (.st [.int .i64, .int .u8], true), some (.st [.int .i64, .int .u8], true), some (.int .i64, true), none, none, none, none, none, none, some (.list (.st [.int .i64, .int .i64]), false), none, none, some (.st [.int .i64, .int .i64], true), some (.st [.int .i64, .int .i64], true), none, none, none, none, none, some (.arr 6 (.int .i64), true), some (.arr 6 (.bool), true), some (.st [.int .i64, .int .i64, .arr 6 (.int .i64), .arr 6 (.int .i64), .arr 6 (.bool)], true), some (.st [.int .i64, .int .i64, .arr 6 (.int .i64), .arr 6 (.int .i64), .arr 6 (.bool)], true), none, none, none, none, some (.list (.int .i64), false), none, none, none, none, none, none, none, none, none, some (.int .u64, true), none, none, none, none, none, none, none, none, some (.int .u32, true), some (.int .u8, true), some (.int .u8, true), none, none, some (.int .i32, true), some (.int .i32, true)]
theorem tabOk : TabOk Try.prog tab := tabOk_of (by kernel_rfl) (by kernel_rfl)
abbrev UT : PT := .st [.int .i64, .int .i64, .arr 6 (.int .i64), .arr 6 (.int .i64), .arr 6 .bool]
abbrev UD := UT.den
abbrev UV := Int × Int × List Int × List Int × List Bool × Unit
def chkSpec (chk : UD → Int) : FSpec := ⟨[UT], [.v], [.int .i64], [.n], fun _ => True, fun x => (chk x.1, ())⟩
def leadSpec (lead : UD → Int × Int) : FSpec := ⟨[UT], [.v], [.int .i64, .int .i64], [.n, .n], fun _ => True, fun x => ((lead x.1).1, (lead x.1).2, ())⟩

theorem pair1 {α : Type} {a b : α} (h : a = b) : (a, ()) = (b, ()) := by rw [h]
theorem pair2 {α β : Type} {a b : α} {c d : β} (h : (a, c) = (b, d)) : (a, c, ()) = (b, d, ()) := by cases h; rfl
def badAt (v : UV) (i : Int) : Bool := decide (v.2.2.1.getD i.toNat 0 < 0) || decide (v.2.2.1.getD i.toNat 0 > v.2.1) || decide (v.2.2.2.1.getD i.toNat 0 < 1) || decide (v.2.2.2.1.getD i.toNat 0 > 1000)
def meAt (v : UV) (i : Int) : Bool := v.2.2.2.2.1.getD i.toNat false && (i == v.1)
def chkFrom (v : UV) : Nat → Int → Int
  | 0, _ => 0
  | n + 1, i => if badAt v i = true then 1 else if meAt v i = true then 4 else chkFrom v n (i + 1)
def chkF (v : UV) : Int := if v.1 < 0 ∨ v.1 ≥ 6 ∨ v.2.1 < 0 ∨ v.2.1 > 16777215 then 1 else chkFrom v 6 0
def leadFrom (d : List Bool) (me : Int) : Nat → Int → Int
  | 0, _ => me
  | n + 1, i => if d.getD i.toNat false = false then i else leadFrom d me n (i + 1)
def leadF (v : UV) : Int × Int := if chkF v = 0 then (leadFrom v.2.2.2.2.1 v.1 6 0, 0) else (0, chkF v)

theorem chk_runs : SpecRuns Try.prog 20 (chkSpec chkF) := by
  obtain ⟨chk, hchk⟩ : ∃ c : UD → Int, c = chkF := ⟨_, rfl⟩
  rw [← hchk]
  refine runs_of_walk (s := chkSpec chk) tabOk specsOk_nil Try.func20 rfl (Nat.le_of_ble_eq_true rfl) rfl ?_
  rintro E ⟨⟨(me : Int), (now : Int), (last : List Int), (wait : List Int), (doubt : List Bool), ⟨⟩⟩, ⟨⟩⟩ A0 L hP hpre hw hA0 hL
  refine ⟨?_⟩
  cbv
  refine ite_intro hA0 (fun hc => ?_) (fun hc => ?_)
  · subst hA0 hchk
    simp only [real0, cmpR] at hc
    refine pair1 ?_
    simp at hc
    simp only [chkF]
    rw [if_pos (by omega)]
  have hc' : ¬ (me < 0 ∨ me ≥ 6 ∨ now < 0 ∨ now > 16777215) := by
    subst hA0
    simp only [real0, cmpR] at hc
    simp at hc
    omega
  refine loop_w (P := Try.prog) hP hA0 hL tabOk specsOk_nil [] [22] (fun x : Int => [(22, .val (.int .i64) .n x)])
    (fun i => (0 ≤ i ∧ i ≤ 6) ∧ chkFrom (me, now, last, wait, doubt, ()) (6 - i).toNat i = chkFrom (me, now, last, wait, doubt, ()) 6 0) (fun i => (6 - i).toNat) 0 (by cbv) ⟨by simp, by simp⟩ (by cbv) ?_
  rintro i ⟨⟨h0, h1'⟩, hI⟩ A hA R hR
  have hF : chkF (me, now, last, wait, doubt, ()) = chkFrom (me, now, last, wait, doubt, ()) 6 0 := by
    simp only [chkF]; rw [if_neg hc']
  refine ⟨?_⟩
  cbv
  have hstep : i < 6 → chkFrom (me, now, last, wait, doubt, ()) 6 0 = if badAt (me, now, last, wait, doubt, ()) i = true then 1 else if meAt (me, now, last, wait, doubt, ()) i = true then 4 else chkFrom (me, now, last, wait, doubt, ()) (6 - (i + 1)).toNat (i + 1) := fun h => by
    rw [← hI, show (6 - i).toNat = (6 - (i + 1)).toNat + 1 by omega]; rfl
  refine ite_intro hA (fun hlt => ?_) (fun hge => ?_)
  · have hi : i < 6 := by subst hA; exact of_decide_eq_true hlt
    have hin : 0 ≤ i ∧ i < Int.ofNat 6 := ⟨h0, hi⟩
    have hstep := hstep hi
    refine ⟨by subst hA; exact hin, imp_intro hA fun _ => by subst hA; exact hin, imp_intro hA fun _ => by subst hA; exact hin, imp_intro hA fun _ => by subst hA; exact hin, ite_intro hA (fun hb => ?_) (fun hb => ⟨by subst hA; exact hin, ite_intro hA (fun hm => ?_) (fun hm => ?_)⟩)⟩
    · refine pair1 ?_
      have hb' : badAt (me, now, last, wait, doubt, ()) i = true := by subst hA; exact hb
      subst hchk
      show _ = chkF (me, now, last, wait, doubt, ())
      rw [hF, hstep, if_pos hb']
    · refine pair1 ?_
      have hb' : ¬ badAt (me, now, last, wait, doubt, ()) i = true := by
        have : badAt (me, now, last, wait, doubt, ()) i = false := by subst hA; exact hb
        simp [this]
      have hm' : meAt (me, now, last, wait, doubt, ()) i = true := by subst hA; exact hm
      subst hchk
      show _ = chkF (me, now, last, wait, doubt, ())
      rw [hF, hstep, if_neg hb', if_pos hm']
    · have hb' : ¬ badAt (me, now, last, wait, doubt, ()) i = true := by
        have : badAt (me, now, last, wait, doubt, ()) i = false := by subst hA; exact hb
        simp [this]
      have hm' : ¬ meAt (me, now, last, wait, doubt, ()) i = true := by
        have : meAt (me, now, last, wait, doubt, ()) i = false := by subst hA; exact hm
        simp [this]
      have e1 : A.ar .add .i64 i 1 = i + 1 := by subst hA; exact add_i64 (by omega)
      refine hR _ (A.ar .add .i64 i 1) ⟨?_, ?_⟩ ?_ (by cbv)
      · rw [e1]; omega
      · rw [e1, hstep, if_neg hb', if_neg hm']
      · rw [e1]; omega
  · have hi : i = 6 := by
      have : ¬ i < 6 := by subst hA; exact of_decide_eq_false hge
      omega
    refine pair1 ?_
    subst hchk hi
    show _ = chkF (me, now, last, wait, doubt, ())
    rw [hF, ← hI]
    rfl
theorem lead_runs : SpecRuns Try.prog 17 (leadSpec leadF) := by
  have h1 : SpecsOk Try.prog [(20, chkSpec chkF)] := specsOk_cons Try.func20 (by kernel_rfl) (by kernel_rfl) chk_runs specsOk_nil
  obtain ⟨chk, hchk⟩ : ∃ c : UD → Int, c = chkF := ⟨_, rfl⟩
  obtain ⟨lead, hlead⟩ : ∃ c : UD → Int × Int, c = leadF := ⟨_, rfl⟩
  rw [← hchk] at h1
  rw [← hlead]
  refine runs_of_walk (s := leadSpec lead) tabOk h1 Try.func17 rfl (Nat.le_of_ble_eq_true rfl) rfl ?_
  rintro E ⟨⟨(me : Int), (now : Int), (last : List Int), (wait : List Int), (doubt : List Bool), ⟨⟩⟩, ⟨⟩⟩ A0 L hP hpre hw hA0 hL
  refine ⟨?_⟩
  cbv
  refine ite_intro hA0 (fun hc => ?_) (fun hc => ?_)
  · have hcn : ¬ chkF (me, now, last, wait, doubt, ()) = 0 := by
      subst hA0 hchk
      have := hc
      simp only [real0, cmpR] at this
      dsimp only [PT.den, PT.denL] at this
      simpa using this
    refine pair2 ?_
    subst hlead hchk
    show _ = leadF (me, now, last, wait, doubt, ())
    simp only [leadF]
    rw [if_neg hcn]
    rfl
  have hc : chkF (me, now, last, wait, doubt, ()) = 0 := by
    subst hA0 hchk
    have := hc
    simp only [real0, cmpR] at this
    dsimp only [PT.den, PT.denL] at this
    simpa using this
  have hF : leadF (me, now, last, wait, doubt, ()) = (leadFrom doubt me 6 0, 0) := by
    simp only [leadF]; rw [if_pos hc]
  refine loop_w (P := Try.prog) hP hA0 hL tabOk h1 [] [14] (fun x : Int => [(14, .val (.int .i64) .n x)])
    (fun i => (0 ≤ i ∧ i ≤ 6) ∧ leadFrom doubt me (6 - i).toNat i = leadFrom doubt me 6 0) (fun i => (6 - i).toNat) 0 (by cbv) ⟨by simp, by simp⟩ (by cbv) ?_
  rintro i ⟨⟨h0, h1'⟩, hI⟩ A hA R hR
  have hstep : i < 6 → leadFrom doubt me 6 0 = if doubt.getD i.toNat false = false then i else leadFrom doubt me (6 - (i + 1)).toNat (i + 1) := fun h => by
    rw [← hI, show (6 - i).toNat = (6 - (i + 1)).toNat + 1 by omega]; rfl
  refine ⟨?_⟩
  cbv
  refine ite_intro hA (fun hlt => ?_) (fun hge => ?_)
  · have hi : i < 6 := by subst hA; exact of_decide_eq_true hlt
    have hin : 0 ≤ i ∧ i < Int.ofNat 6 := ⟨h0, hi⟩
    have hstep := hstep hi
    refine ⟨by subst hA; exact hin, ite_intro hA (fun hb => ?_) (fun hb => ?_)⟩
    · have hb' : doubt.getD i.toNat false = false := by
        subst hA
        have : (!doubt.getD i.toNat false) = true := hb
        simpa using this
      refine pair2 ?_
      subst hlead
      show _ = leadF (me, now, last, wait, doubt, ())
      rw [hF, hstep, if_pos hb']
      rfl
    · have hb' : ¬ doubt.getD i.toNat false = false := by
        subst hA
        have : (!doubt.getD i.toNat false) = false := hb
        simpa using this
      have e1 : A.ar .add .i64 i 1 = i + 1 := by subst hA; exact add_i64 (by omega)
      refine hR _ (A.ar .add .i64 i 1) ⟨?_, ?_⟩ ?_ (by cbv)
      · rw [e1]; omega
      · rw [e1, hstep, if_neg hb']
      · rw [e1]; omega
  · have hi : i = 6 := by
      have : ¬ i < 6 := by subst hA; exact of_decide_eq_false hge
      omega
    refine pair2 ?_
    subst hlead hi
    show _ = leadF (me, now, last, wait, doubt, ())
    rw [hF, ← hI]
    rfl

/-! ### Plain laws -/
theorem chkFrom_me (v : UV) : ∀ (n : Nat) (i : Int), chkFrom v n i = 0 → ∀ j, i ≤ j → j < i + n → meAt v j = false
  | 0, i, _, j, h1, h2 => by omega
  | n + 1, i, h, j, h1, h2 => by
    simp only [chkFrom] at h
    split at h
    · omega
    · split at h
      · omega
      · rename_i hm
        by_cases hj : j = i
        · subst hj; simpa using hm
        · exact chkFrom_me v n (i + 1) h j (by omega) (by omega)
theorem lead_in (d : List Bool) (me : Int) : ∀ (n : Nat) (i : Int), (∃ j, i ≤ j ∧ j < i + n ∧ d.getD j.toNat false = false) → i ≤ leadFrom d me n i ∧ leadFrom d me n i < i + n ∧ d.getD (leadFrom d me n i).toNat false = false
  | 0, i, ⟨j, h1, h2, _⟩ => by omega
  | n + 1, i, ⟨j, h1, h2, h3⟩ => by
    simp only [leadFrom]
    split
    · rename_i h
      exact ⟨by omega, by omega, h⟩
    · rename_i h
      have hj : j ≠ i := fun e => h (e ▸ h3)
      have := lead_in d me n (i + 1) ⟨j, by omega, by omega, h3⟩
      exact ⟨by omega, by omega, this.2.2⟩
theorem lead_any (d : List Bool) (me me' : Int) : ∀ (n : Nat) (i : Int), (∃ j, i ≤ j ∧ j < i + n ∧ d.getD j.toNat false = false) → leadFrom d me n i = leadFrom d me' n i
  | 0, i, ⟨j, h1, h2, _⟩ => by omega
  | n + 1, i, ⟨j, h1, h2, h3⟩ => by
    simp only [leadFrom]
    split
    · rfl
    · rename_i h
      have hj : j ≠ i := fun e => h (e ▸ h3)
      exact lead_any d me me' n (i + 1) ⟨j, by omega, by omega, h3⟩
theorem lead_ok {v : UV} (h : (leadF v).2 = 0) : chkF v = 0 ∧ (leadF v).1 = leadFrom v.2.2.2.2.1 v.1 6 0 ∧ ∃ j : Int, 0 ≤ j ∧ j < 0 + (6 : Nat) ∧ v.2.2.2.2.1.getD j.toNat false = false := by
  simp only [leadF] at h ⊢
  split at h
  case isFalse => rename_i h2; exact absurd h h2
  rename_i hc
  rw [if_pos hc]
  refine ⟨hc, rfl, v.1, ?_⟩
  simp only [chkF] at hc
  split at hc
  · omega
  rename_i hr
  have := chkFrom_me v 6 0 hc v.1 (by omega) (by omega)
  refine ⟨by omega, by omega, ?_⟩
  simp only [meAt, beq_self_eq_true, Bool.and_true] at this
  exact this
theorem listEqb_bool : ∀ {x y : List Bool}, listEqb PT.bool.eqb x y = true → x = y
  | [], [], _ => rfl
  | [], _ :: _, h => by simp [listEqb] at h
  | _ :: _, [], h => by simp [listEqb] at h
  | a :: x, b :: y, h => by
    simp only [listEqb, Bool.and_eq_true] at h
    have h1 : (a == b) = true := h.1
    rw [listEqb_bool h.2, beq_iff_eq.1 h1]
theorem law_runs : SpecRuns Try.prog 7 (lawSpec [UT, UT]) := by
  have h1 : SpecsOk Try.prog [(17, leadSpec leadF)] := specsOk_cons Try.func17 (by kernel_rfl) (by kernel_rfl) lead_runs specsOk_nil
  obtain ⟨lead, hlead⟩ : ∃ c : UD → Int × Int, c = leadF := ⟨_, rfl⟩
  rw [← hlead] at h1
  refine runs_of_walk (s := lawSpec [UT, UT]) tabOk h1 Try.func7 rfl (Nat.le_of_ble_eq_true rfl) rfl ?_
  rintro E ⟨⟨(me : Int), (now : Int), (last : List Int), (wait : List Int), (doubt : List Bool), ⟨⟩⟩, ⟨(me2 : Int), (now2 : Int), (last2 : List Int), (wait2 : List Int), (doubt2 : List Bool), ⟨⟩⟩, ⟨⟩⟩ A0 L hP hpre hw hA0 hL
  refine ⟨?_⟩
  cbv
  subst hA0
  simp only [real0, cmpR]
  dsimp only [PT.den, PT.denL, PT.dflt] at *
  subst hlead
  refine ⟨fun h => absurd h (by decide +kernel), fun _ => ⟨fun h => pair1 ?_, fun h => ?_⟩⟩
  · by_cases c1 : (leadF (me, now, last, wait, doubt, ())).2 = 0
    · simp [c1]
    · have : (leadF (me, now, last, wait, doubt, ())).1 = 0 := by
        simp only [leadF] at c1 ⊢
        split
        · rename_i h2; rw [if_pos h2] at c1; exact absurd rfl c1
        · rfl
      simp [this]
  · simp only [Bool.or_eq_false_iff, bne_eq_false_iff_eq] at h
    obtain ⟨c1, e1, j1⟩ := lead_ok h.1
    obtain ⟨c2, e2, j2⟩ := lead_ok h.2
    obtain ⟨p1, p2, p3⟩ := lead_in _ me _ _ j1
    obtain ⟨q1, q2, q3⟩ := lead_in _ me2 _ _ j2
    simp only [e1, e2] at *
    refine ⟨fun _ => ⟨p1, p2⟩, fun _ => ⟨q1, q2⟩, fun hb => ?_, fun _ => pair1 ?_⟩
    · exfalso
      simp only [Bool.or_eq_true, decide_eq_true_eq] at hb
      rcases hb with ((((hb | hb) | hb) | hb) | hb) | hb
      · omega
      · omega
      · exact absurd p3 (by simp only [hb]; simp)
      · omega
      · omega
      · exact absurd q3 (by simp only [hb]; simp)
    · cases hd : (PT.arr 6 PT.bool).eqb doubt doubt2
      · rfl
      · have he : doubt = doubt2 := listEqb_bool hd
        subst he
        have := lead_any doubt me me2 _ _ j1
        simp only [this, beq_self_eq_true, Bool.or_true]
end Go.Proofs.Ytofccajdoekjgaa.PulseT
