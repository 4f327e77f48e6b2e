/- Check, Tick, has, idx and rest: what each computes. -/
import Derived.Test.YtofccajdoekjgaaPulse
set_option maxHeartbeats 1000000
set_option maxRecDepth 20000
set_option linter.unusedSimpArgs false
set_option linter.unusedVariables false
namespace Go.Proofs.Ytofccajdoekjgaa.PulseT
open Go Go.Proofs.Ytofccajdoekjgaa.Sy Go.Proofs

def tickSpec (tick : UD → UD × List Int × Int) : FSpec := ⟨[UT], [.v], [UT, .list (.int .i64), .int .i64], [.n, .l .n, .n], fun _ => True, fun x => ((tick x.1).1, (tick x.1).2.1, (tick x.1).2.2, ())⟩
def newSpec (new : Int → Int → UD × Int) : FSpec := ⟨[.int .i64, .int .i64], [.v, .v], [UT, .int .i64], [.n, .n], fun _ => True, fun x => ((new x.1 x.2.1).1, (new x.1 x.2.1).2, ())⟩
def hasSpec (f : List Int → Int → Bool) : FSpec := ⟨[.list (.int .i64), .int .i64], [.v, .v], [.bool], [.n], fun _ => True, fun x => (f x.1 x.2.1, ())⟩
def idxSpec (f : List Int → Int → Int) : FSpec := ⟨[.list (.int .i64), .int .i64], [.v, .v], [.int .i64], [.n], fun _ => True, fun x => (f x.1 x.2.1, ())⟩
def restSpec (rest : Int → Int → Int) : FSpec := ⟨[.int .i64, .int .i64], [.v, .v], [.int .i64], [.n], fun _ => True, fun x => (rest x.1 x.2.1, ())⟩
def zeroU : UV := (0, 0, [0, 0, 0, 0, 0, 0], [0, 0, 0, 0, 0, 0], [false, false, false, false, false, false], ())
/-- Is it to be doubted from now on? -/
def cond (v : UV) (j : Nat) : Bool := ((j : Int) != v.1) && !v.2.2.2.2.1.getD j false && decide (v.2.1 + 1 - (v.2.2.1.set v.1.toNat (v.2.1 + 1)).getD j 0 > v.2.2.2.1.getD j 0)
def tickF (v : UV) : UV × List Int × Int :=
  if chkF v = 0 then
    if v.2.1 = 16777215 then (zeroU, [], 8) else
    ((v.1, v.2.1 + 1, v.2.2.1.set v.1.toNat (v.2.1 + 1), v.2.2.2.1, (List.range 6).map (fun j => v.2.2.2.2.1.getD j false || cond v j), ()), ((List.range 6).filter (cond v)).map Int.ofNat, 0)
  else (zeroU, [], chkF v)
theorem pair3 {α β γ : Type} {a b : α} {c d : β} {e f : γ} (h : (a, c, e) = (b, d, f)) : (a, c, e, ()) = (b, d, f, ()) := by cases h; rfl

/-- What a right pulse is. -/
theorem chk_ok {v : UV} (h : chkF v = 0) : (0 ≤ v.1 ∧ v.1 < 6) ∧ (0 ≤ v.2.1 ∧ v.2.1 ≤ 16777215) ∧ ∀ j : Nat, j < 6 → (0 ≤ v.2.2.1.getD j 0 ∧ v.2.2.1.getD j 0 ≤ v.2.1) ∧ (1 ≤ v.2.2.2.1.getD j 0 ∧ v.2.2.2.1.getD j 0 ≤ 1000) ∧ (v.2.2.2.2.1.getD j false = true → (j : Int) ≠ v.1) := by
  simp only [chkF] at h
  split at h
  · omega
  rename_i hr
  refine ⟨by omega, by omega, fun j hj => ?_⟩
  have hb : ∀ (n : Nat) (i : Int), chkFrom v n i = 0 → ∀ j, i ≤ j → j < i + n → badAt v j = false ∧ meAt v j = false := by
    intro n
    induction n with
    | zero => intro i _ j h1 h2; omega
    | succ n ih =>
      intro i h j h1 h2
      simp only [chkFrom] at h
      split at h
      · omega
      · rename_i hb
        split at h
        · omega
        · rename_i hm
          by_cases hj : j = i
          · subst hj; exact ⟨by simpa using hb, by simpa using hm⟩
          · exact ih (i + 1) h j (by omega) (by omega)
  obtain ⟨k1, k2⟩ := hb 6 0 h j (by omega) (by omega)
  simp only [badAt, meAt, Int.toNat_natCast, Bool.or_eq_false_iff, decide_eq_false_iff_not, Bool.and_eq_false_iff] at k1 k2
  refine ⟨by omega, by omega, fun hd e => ?_⟩
  rcases k2 with k2 | k2
  · rw [hd] at k2; cases k2
  · simp [e] at k2
theorem ok_chk {v : UV} (h1 : 0 ≤ v.1 ∧ v.1 < 6) (h2 : 0 ≤ v.2.1 ∧ v.2.1 ≤ 16777215) (h3 : ∀ j : Nat, j < 6 → (0 ≤ v.2.2.1.getD j 0 ∧ v.2.2.1.getD j 0 ≤ v.2.1) ∧ (1 ≤ v.2.2.2.1.getD j 0 ∧ v.2.2.2.1.getD j 0 ≤ 1000) ∧ (v.2.2.2.2.1.getD j false = true → (j : Int) ≠ v.1)) : chkF v = 0 := by
  simp only [chkF]
  rw [if_neg (by omega)]
  have key : ∀ (n : Nat) (i : Int), 0 ≤ i → i + n ≤ 6 → chkFrom v n i = 0 := by
    intro n
    induction n with
    | zero => intro i _ _; rfl
    | succ n ih =>
      intro i h0 hn
      obtain ⟨k1, k2, k3⟩ := h3 i.toNat (by omega)
      have hb : badAt v i = false := by
        simp only [badAt, Bool.or_eq_false_iff, decide_eq_false_iff_not]
        omega
      have hm : meAt v i = false := by
        simp only [meAt]
        cases hd : v.2.2.2.2.1.getD i.toNat false
        · rfl
        · have := k3 hd
          simp
          omega
      simp only [chkFrom]
      rw [if_neg (by simp [hb]), if_neg (by simp [hm])]
      exact ih (i + 1) (by omega) (by omega)
  exact key 6 0 (by omega) (by omega)
theorem getD_setI {l : List Int} {i j : Nat} {v : Int} (h : i < l.length) : (l.set i v).getD j 0 = if j = i then v else l.getD j 0 := by
  simp only [List.getD_eq_getElem?_getD, List.getElem?_set]
  by_cases e : i = j
  · subst e; simp [h]
  · rw [if_neg e, if_neg (fun h => e h.symm)]
theorem getD_setB {l : List Bool} {i j : Nat} {v : Bool} (h : i < l.length) : (l.set i v).getD j false = if j = i then v else l.getD j false := by
  simp only [List.getD_eq_getElem?_getD, List.getElem?_set]
  by_cases e : i = j
  · subst e; simp [h]
  · rw [if_neg e, if_neg (fun h => e h.symm)]
theorem ext_b {a b : List Bool} (ha : a.length = 6) (hb : b.length = 6) (h : ∀ j, j < 6 → a.getD j false = b.getD j false) : a = b := by
  apply List.ext_getElem (by omega)
  intro i h1 h2
  have := h i (by omega)
  simpa [List.getD_eq_getElem?_getD, h1, h2] using this

theorem tick_runs : SpecRuns Try.prog 19 (tickSpec tickF) := by
  have h1 : SpecsOk Try.prog [(20, chkSpec chkF)] := specsOk_cons Try.func20 (by kernel_rfl) (by kernel_rfl) chk_runs specsOk_nil
  obtain ⟨chk, hchk⟩ : ∃ c : UD → Int, c = chkF := ⟨_, rfl⟩
  obtain ⟨tick, htick⟩ : ∃ c : UD → UD × List Int × Int, c = tickF := ⟨_, rfl⟩
  rw [← hchk] at h1
  rw [← htick]
  refine runs_of_walk (s := tickSpec tick) tabOk h1 Try.func19 rfl (Nat.le_of_ble_eq_true rfl) rfl ?_
  rintro E ⟨⟨(me : Int), (now : Int), (last : List Int), (wait : List Int), (doubt : List Bool), ⟨⟩⟩, ⟨⟩⟩ A0 L hP hpre hw hA0 hL
  simp only [WfA, tickSpec, Wf, WfL] at hw
  have ll : last.length = 6 := hw.1.2.2.1.1
  have ld : doubt.length = 6 := hw.1.2.2.2.2.1.1
  refine ⟨?_⟩
  cbv
  refine ite_intro hA0 (fun hc => ?_) (fun hc => ?_)
  · subst hA0 hchk htick
    simp only [real0, cmpR] at hc
    dsimp only [PT.den, PT.denL] at *
    have hc : ¬ chkF (me, now, last, wait, doubt, ()) = 0 := by simpa using hc
    refine pair3 ?_
    simp only [tickF, hc, if_false, zeroU]
  have hc : chkF (me, now, last, wait, doubt, ()) = 0 := by
    subst hA0 hchk
    have := hc
    simp only [real0, cmpR] at this
    dsimp only [PT.den, PT.denL] at this
    simpa using this
  refine ite_intro hA0 (fun hf => ?_) (fun hf => ?_)
  · have hf : now = 16777215 := by
      subst hA0
      exact beq_iff_eq.1 hf
    subst htick
    refine pair3 ?_
    show _ = tickF (me, now, last, wait, doubt, ())
    subst hf
    simp only [tickF, hc, if_true, zeroU]
    rfl
  have hf : ¬ now = 16777215 := by
    subst hA0
    intro e
    have : (now == 16777215) = false := hf
    simp [e] at this
  obtain ⟨q1, q2, q3⟩ := chk_ok hc
  dsimp only at q1 q2 q3
  have e0 : A0.ar .add .i64 now 1 = now + 1 := by subst hA0; exact add_i64 (by omega)
  refine ⟨by subst hA0; exact ⟨q1.1, q1.2⟩, ?_⟩
  have e2 : A0.set (.int .i64) last me (A0.ar .add .i64 now 1) = last.set me.toNat (now + 1) := by rw [e0]; subst hA0; rfl
  refine loop_w (P := Try.prog) hP hA0 hL tabOk h1 [] [1, 6, 28] (fun x : List Bool × List Int × Int => [(1, .val (.box UT) (.b .n) (me, A0.ar .add .i64 now 1, A0.set (.int .i64) last me (A0.ar .add .i64 now 1), wait, x.1, ())), (6, .val (.list (.int .i64)) (.l .n) x.2.1), (28, .val (.int .i64) .n x.2.2)])
    (fun x => (0 ≤ x.2.2 ∧ x.2.2 ≤ 6) ∧ x.1.length = 6 ∧ (∀ j, j < 6 → x.1.getD j false = if j < x.2.2.toNat then (doubt.getD j false || cond (me, now, last, wait, doubt, ()) j) else doubt.getD j false) ∧ x.2.1 = ((List.range x.2.2.toNat).filter (cond (me, now, last, wait, doubt, ()))).map Int.ofNat)
    (fun x => (6 - x.2.2).toNat) (doubt, [], 0) (by cbv) ⟨by simp, ld, by simp, by simp⟩ (by cbv) ?_
  rintro ⟨d, l, i⟩ ⟨⟨h0, h1'⟩, lenD, hD, hl⟩ A hA R hR
  dsimp only at h0 h1' lenD hD hl
  refine ⟨?_⟩
  cbv
  refine ite_intro hA (fun hlt => ?_) (fun hge => ?_)
  · have hi : i < 6 := by subst hA; exact of_decide_eq_true hlt
    have hin : 0 ≤ i ∧ i < Int.ofNat 6 := ⟨h0, hi⟩
    have e1 : A.ar .add .i64 i 1 = i + 1 := by subst hA; exact add_i64 (by omega)
    have hdi := hD i.toNat (by omega)
    rw [if_neg (Nat.lt_irrefl _)] at hdi
    have hlast : 0 ≤ (last.set me.toNat (now + 1)).getD i.toNat 0 ∧ (last.set me.toNat (now + 1)).getD i.toNat 0 ≤ now + 1 := by
      rw [getD_setI (by omega)]
      split
      · omega
      · have := (q3 i.toNat (by omega)).1; omega
    have hcond : A.band (A.band (A.cmp .neq i me) (A.bnot (A.get .bool d i))) (A.cmp .gtr (A.ar .sub .i64 (A0.ar .add .i64 now 1) (A.get (.int .i64) (A0.set (.int .i64) last me (A0.ar .add .i64 now 1)) i)) (A.get (.int .i64) wait i)) = cond (me, now, last, wait, doubt, ()) i.toNat := by
      rw [e2, e0]
      subst hA
      show ((i != me) && !d.getD i.toNat false && decide (arR .sub .i64 (now + 1) ((last.set me.toNat (now + 1)).getD i.toNat 0) > wait.getD i.toNat 0)) = _
      rw [sub_i64 (by omega), hdi]
      simp only [cond]
      rw [show ((i.toNat : Nat) : Int) = i by omega]
    have hrange : (List.range (i + 1).toNat).filter (cond (me, now, last, wait, doubt, ())) = (List.range i.toNat).filter (cond (me, now, last, wait, doubt, ())) ++ if cond (me, now, last, wait, doubt, ()) i.toNat = true then [i.toNat] else [] := by
      rw [show (i + 1).toNat = i.toNat + 1 by omega, List.range_succ, List.filter_append]
      cases hcv : cond (me, now, last, wait, doubt, ()) i.toNat <;> simp [hcv]
    refine ⟨imp_intro hA fun _ => by subst hA; exact hin, imp_intro hA fun _ => by subst hA; exact hin, imp_intro hA fun _ => by subst hA; exact hin, ite_intro hA (fun hb => ?_) (fun hb => ?_)⟩
    · have hb : cond (me, now, last, wait, doubt, ()) i.toNat = true := hcond.symm.trans hb
      refine ⟨by subst hA; exact hin, ?_, ?_⟩
      · subst hA
        show ((List.length l : Nat) : Int) + ((List.length ([0].set (Int.ofNat 0).toNat i) : Nat) : Int) ≤ 4294967296
        have hll : List.length l ≤ 6 := by
          rw [hl, List.length_map]
          exact Nat.le_trans (List.length_filter_le _ _) (by simp; omega)
        have : List.length ([0].set (Int.ofNat 0).toNat i) = 1 := by simp
        rw [this]
        omega
      · have e3 : A.set .bool d i true = d.set i.toNat true := by subst hA; rfl
        have e4 : A.app (.int .i64) l (A.set (.int .i64) ([0] : List Int) (Int.ofNat 0) i) = l ++ [i] := by subst hA; rfl
        refine hR _ (A.set .bool d i true, A.app (.int .i64) l (A.set (.int .i64) ([0] : List Int) (Int.ofNat 0) i), A.ar .add .i64 i 1) ⟨?_, ?_, ?_, ?_⟩ ?_ (by cbv)
        · show 0 ≤ A.ar .add .i64 i 1 ∧ A.ar .add .i64 i 1 ≤ 6
          omega
        · show List.length (A.set .bool d i true) = 6
          rw [e3]; exact List.length_set.trans lenD
        · intro j hj
          show List.getD (α := Bool) (A.set .bool d i true) j false = if j < (A.ar .add .i64 i 1).toNat then _ else _
          have e5 : List.getD (α := Bool) (A.set .bool d i true) j false = if j = i.toNat then true else d.getD j false := by
            rw [e3]; exact getD_setB (by omega)
          rw [e5, e1, hD j hj]
          by_cases hji : j = i.toNat
          · subst hji
            rw [if_pos rfl, if_pos (by omega), hb, Bool.or_true]
          · rw [if_neg hji]
            by_cases h2 : j < i.toNat
            · rw [if_pos h2, if_pos (by omega)]
            · rw [if_neg h2, if_neg (by omega)]
        · show A.app (.int .i64) l _ = ((List.range (A.ar .add .i64 i 1).toNat).filter _).map Int.ofNat
          rw [e4, e1, hrange, if_pos hb, List.map_append, ← hl]
          show l ++ [i] = l ++ [((i.toNat : Nat) : Int)]
          rw [show ((i.toNat : Nat) : Int) = i by omega]
        · show (6 - A.ar .add .i64 i 1).toNat < (6 - i).toNat
          omega
    · have hb : cond (me, now, last, wait, doubt, ()) i.toNat = false := hcond.symm.trans hb
      refine hR _ (d, l, A.ar .add .i64 i 1) ⟨?_, lenD, ?_, ?_⟩ ?_ (by cbv)
      · show 0 ≤ A.ar .add .i64 i 1 ∧ A.ar .add .i64 i 1 ≤ 6
        omega
      · intro j hj
        show d.getD j false = if j < (A.ar .add .i64 i 1).toNat then _ else _
        rw [e1, hD j hj]
        by_cases hji : j = i.toNat
        · subst hji
          rw [if_neg (Nat.lt_irrefl _), if_pos (by omega), hb, Bool.or_false]
        · by_cases h2 : j < i.toNat
          · rw [if_pos h2, if_pos (by omega)]
          · rw [if_neg h2, if_neg (by omega)]
      · show l = ((List.range (A.ar .add .i64 i 1).toNat).filter _).map Int.ofNat
        rw [e1, hrange, hb, hl]
        simp
      · show (6 - A.ar .add .i64 i 1).toNat < (6 - i).toNat
        omega
  · have hi : i = 6 := by
      have : ¬ i < 6 := by subst hA; exact of_decide_eq_false hge
      omega
    refine pair3 ?_
    subst htick hi
    show ((me, A0.ar .add .i64 now 1, A0.set (.int .i64) last me (A0.ar .add .i64 now 1), wait, d, ()), l, (0 : Int)) = tickF (me, now, last, wait, doubt, ())
    rw [e2, e0]
    simp only [tickF, hc, if_true]
    rw [if_neg hf, hl]
    have hdd : d = (List.range 6).map (fun j => doubt.getD j false || cond (me, now, last, wait, doubt, ()) j) :=
      ext_b lenD (by simp) fun j hj => by
        rw [hD j hj, if_pos (by omega)]
        simp [List.getD_eq_getElem?_getD, hj]
    rw [← hdd]
    rfl

theorem rest_runs (restF : Int → Int → Int) (hr : restF = fun n m => if m ≤ 0 then 0 else arR .rem .i64 (arR .add .i64 (arR .rem .i64 n m) m) m) : SpecRuns Try.prog 13 (restSpec restF) := by
  refine runs_of_walk (s := restSpec restF) tabOk specsOk_nil Try.func13 rfl (Nat.le_of_ble_eq_true rfl) rfl ?_
  rintro E ⟨(n : Int), (m : Int), ⟨⟩⟩ A L hP hpre hw hA hL
  refine ⟨?_⟩
  cbv
  subst hA
  simp only [real0, cmpR]
  dsimp only [PT.den, PT.denL] at *
  subst hr
  refine ⟨fun h => pair1 ?_, fun h => ?_⟩
  · have h : m ≤ 0 := by simpa using h
    simp only [h, if_true]
  · have h : ¬ m ≤ 0 := by simpa using h
    refine ⟨by omega, by omega, pair1 ?_⟩
    simp only [h, if_false]
def restF (n m : Int) : Int := if m ≤ 0 then 0 else arR .rem .i64 (arR .add .i64 (arR .rem .i64 n m) m) m
/-- The rest lies where it should. -/
theorem rest_in (n m : Int) (h0 : 0 < m) (hm : m ≤ 1000000) : 0 ≤ restF n m ∧ restF n m < m := by
  unfold restF
  rw [if_neg (by omega)]
  show 0 ≤ (arR .add .i64 (n.tmod m) m).tmod m ∧ (arR .add .i64 (n.tmod m) m).tmod m < m
  have h1 : -m < n.tmod m := Int.lt_tmod_of_pos n h0
  have h2 : n.tmod m < m := Int.tmod_lt_of_pos n h0
  rw [add_i64 (by omega)]
  exact ⟨Int.tmod_nonneg m (by omega), Int.tmod_lt_of_pos _ h0⟩
def idxFrom (l : List Int) (x : Int) : Nat → Int → Int
  | 0, _ => -1
  | n + 1, i => if x = l.getD i.toNat 0 then i else idxFrom l x n (i + 1)
def idxF (l : List Int) (x : Int) : Int := idxFrom l x l.length 0
def hasF (l : List Int) (x : Int) : Bool := decide (idxF l x ≥ 0)
theorem idx_neg (l : List Int) (x : Int) : ∀ (n : Nat) (i : Int), 0 ≤ i → (0 ≤ idxFrom l x n i ↔ ∃ j : Nat, i.toNat ≤ j ∧ j < i.toNat + n ∧ x = l.getD j 0)
  | 0, i, _ => by
    simp only [idxFrom]
    constructor
    · intro h; omega
    · rintro ⟨j, h1, h2, _⟩; omega
  | n + 1, i, h0 => by
    simp only [idxFrom]
    split
    · rename_i h
      exact ⟨fun _ => ⟨i.toNat, Nat.le_refl _, by omega, h⟩, fun _ => h0⟩
    · rename_i h
      rw [idx_neg l x n (i + 1) (by omega)]
      constructor
      · rintro ⟨j, h1, h2, h3⟩; exact ⟨j, by omega, by omega, h3⟩
      · rintro ⟨j, h1, h2, h3⟩
        refine ⟨j, ?_, by omega, h3⟩
        by_cases hj : j = i.toNat
        · subst hj; exact absurd h3 h
        · omega
theorem has_iff {l : List Int} {x : Int} : hasF l x = true ↔ x ∈ l := by
  unfold hasF idxF
  rw [decide_eq_true_eq]
  refine (idx_neg l x l.length 0 (by omega)).trans ?_
  constructor
  · rintro ⟨j, _, h2, h3⟩
    have hj : j < l.length := by simpa using h2
    rw [h3, List.getD_eq_getElem?_getD, List.getElem?_eq_getElem hj]
    exact List.getElem_mem hj
  · intro h
    obtain ⟨j, hj, e⟩ := List.getElem_of_mem h
    refine ⟨j, by simp, by simpa using hj, ?_⟩
    rw [List.getD_eq_getElem?_getD, List.getElem?_eq_getElem hj, ← e]; rfl
theorem idx_runs : SpecRuns Try.prog 24 (idxSpec idxF) := by
  obtain ⟨fn, hfn⟩ : ∃ c : List Int → Int → Int, c = idxF := ⟨_, rfl⟩
  rw [← hfn]
  refine runs_of_walk (s := idxSpec fn) tabOk specsOk_nil Try.func24 rfl (Nat.le_of_ble_eq_true rfl) rfl ?_
  rintro E ⟨(l : List Int), (x : Int), ⟨⟩⟩ A0 L hP hpre hw hA0 hL
  simp only [WfA, idxSpec, Wf, WfL] at hw
  obtain ⟨N, hN⟩ : ∃ N : Nat, N = List.length (α := Int) l := ⟨_, rfl⟩
  have hll : N ≤ 4294967296 := by rw [hN]; exact hw.1.1
  refine ⟨?_⟩
  cbv
  refine loop_w (P := Try.prog) hP hA0 hL tabOk specsOk_nil [] [8] (fun x : Int => [(8, .val (.int .i64) .n x)])
    (fun i => (0 ≤ i ∧ i ≤ N) ∧ idxFrom l x (N - i).toNat i = idxF l x) (fun i => ((N : Int) - i).toNat) 0 (by cbv) ⟨by simp, by simp [idxF, hN]⟩ (by cbv) ?_
  rintro i ⟨⟨h0, h1'⟩, hI⟩ A hA R hR
  refine ⟨?_⟩
  cbv
  have hlen : A0.len (.int .i64) l = N := by subst hA0 hN; rfl
  have hstep : i < N → idxF l x = if x = l.getD i.toNat 0 then i else idxFrom l x ((N : Int) - (i + 1)).toNat (i + 1) := fun h => by
    rw [← hI, show ((N : Int) - i).toNat = ((N : Int) - (i + 1)).toNat + 1 by omega]; rfl
  refine ite_intro hA (fun hlt => ?_) (fun hge => ?_)
  · have hi : i < (N : Int) := by
      rw [← hlen]; subst hA; exact of_decide_eq_true hlt
    have hstep := hstep hi
    refine ⟨by subst hA hN; exact ⟨h0, hi⟩, ite_intro hA (fun hb => ?_) (fun hb => ?_)⟩
    · have hb : x = l.getD i.toNat 0 := by subst hA; exact beq_iff_eq.1 hb
      refine pair1 ?_
      subst hfn
      show i = idxF l x
      rw [hstep, if_pos hb]
    · have hb : ¬ x = l.getD i.toNat 0 := by
        subst hA
        intro e
        have : (x == l.getD i.toNat 0) = false := hb
        rw [← e] at this
        simp at this
      have e1 : A.ar .add .i64 i 1 = i + 1 := by subst hA; exact add_i64 (by omega)
      refine hR _ (A.ar .add .i64 i 1) ⟨?_, ?_⟩ ?_ (by cbv)
      · show 0 ≤ A.ar .add .i64 i 1 ∧ A.ar .add .i64 i 1 ≤ (N : Int)
        omega
      · rw [e1, hstep, if_neg hb]
      · show ((N : Int) - A.ar .add .i64 i 1).toNat < ((N : Int) - i).toNat
        omega
  · have hi : i = (N : Int) := by
      have : ¬ i < (N : Int) := by
        rw [← hlen]; subst hA; exact of_decide_eq_false hge
      have h1'' : i ≤ (N : Int) := h1'
      omega
    refine pair1 ?_
    subst hfn
    show -1 = idxF l x
    rw [← hI, hi]
    simp [idxFrom]
theorem has_runs : SpecRuns Try.prog 21 (hasSpec hasF) := by
  have h1 : SpecsOk Try.prog [(24, idxSpec idxF)] := specsOk_cons Try.func24 (by kernel_rfl) (by kernel_rfl) idx_runs specsOk_nil
  obtain ⟨idx, hidx⟩ : ∃ c : List Int → Int → Int, c = idxF := ⟨_, rfl⟩
  rw [← hidx] at h1
  obtain ⟨fn, hfn⟩ : ∃ c : List Int → Int → Bool, c = hasF := ⟨_, rfl⟩
  rw [← hfn]
  refine runs_of_walk (s := hasSpec fn) tabOk h1 Try.func21 rfl (Nat.le_of_ble_eq_true rfl) rfl ?_
  rintro E ⟨(l : List Int), (x : Int), ⟨⟩⟩ A0 L hP hpre hw hA0 hL
  refine ⟨?_⟩
  cbv
  subst hA0 hfn hidx
  exact pair1 rfl
def newF (me wait : Int) : UV × Int := if chkF (me, 0, [0, 0, 0, 0, 0, 0], List.replicate 6 wait, [false, false, false, false, false, false], ()) = 0 then ((me, 0, [0, 0, 0, 0, 0, 0], List.replicate 6 wait, [false, false, false, false, false, false], ()), 0) else (zeroU, chkF (me, 0, [0, 0, 0, 0, 0, 0], List.replicate 6 wait, [false, false, false, false, false, false], ()))
theorem new_runs : SpecRuns Try.prog 18 (newSpec newF) := by
  have h1 : SpecsOk Try.prog [(20, chkSpec chkF)] := specsOk_cons Try.func20 (by kernel_rfl) (by kernel_rfl) chk_runs specsOk_nil
  obtain ⟨chk, hchk⟩ : ∃ c : UD → Int, c = chkF := ⟨_, rfl⟩
  obtain ⟨fn, hfn⟩ : ∃ c : Int → Int → UD × Int, c = newF := ⟨_, rfl⟩
  rw [← hchk] at h1
  rw [← hfn]
  refine runs_of_walk (s := newSpec fn) tabOk h1 Try.func18 rfl (Nat.le_of_ble_eq_true rfl) rfl ?_
  rintro E ⟨(me : Int), (wt : Int), ⟨⟩⟩ A0 L hP hpre hw hA0 hL
  refine ⟨?_⟩
  cbv
  refine loop_w (P := Try.prog) hP hA0 hL tabOk h1 [] [6, 11] (fun x : List Int × Int => [(6, .val (.box UT) (.b .n) (me, (0 : Int), ([0, 0, 0, 0, 0, 0] : List Int), x.1, [false, false, false, false, false, false], ())), (11, .val (.int .i64) .n x.2)])
    (fun x => (0 ≤ x.2 ∧ x.2 ≤ 6) ∧ x.1.length = 6 ∧ ∀ j, j < x.2.toNat → x.1.getD j 0 = wt) (fun x => (6 - x.2).toNat) ([0, 0, 0, 0, 0, 0], 0) (by cbv) ⟨by simp, by simp, by simp⟩ (by cbv) ?_
  rintro ⟨c, i⟩ ⟨⟨h0, h1'⟩, lc, hc⟩ A hA R hR
  dsimp only at h0 h1' lc hc
  refine ⟨?_⟩
  cbv
  refine ite_intro hA (fun hlt => ?_) (fun hge => ?_)
  · have hi : i < 6 := by subst hA; exact of_decide_eq_true hlt
    have hin : 0 ≤ i ∧ i < Int.ofNat 6 := ⟨h0, hi⟩
    have e1 : A.ar .add .i64 i 1 = i + 1 := by subst hA; exact add_i64 (by omega)
    have e2 : A.set (.int .i64) c i wt = c.set i.toNat wt := by subst hA; rfl
    refine ⟨by subst hA; exact hin, ?_⟩
    refine hR _ (A.set (.int .i64) c i wt, A.ar .add .i64 i 1) ⟨?_, ?_, ?_⟩ ?_ (by cbv)
    · show 0 ≤ A.ar .add .i64 i 1 ∧ A.ar .add .i64 i 1 ≤ 6
      omega
    · show List.length (A.set (.int .i64) c i wt) = 6
      rw [e2]; exact List.length_set.trans lc
    · intro j hj
      show List.getD (α := Int) (A.set (.int .i64) c i wt) j 0 = wt
      have hj : j < (A.ar .add .i64 i 1).toNat := hj
      rw [e1] at hj
      have e3 : List.getD (α := Int) (A.set (.int .i64) c i wt) j 0 = if j = i.toNat then wt else c.getD j 0 := by
        rw [e2]; exact getD_setI (by omega)
      rw [e3]
      split
      · rfl
      · exact hc j (by omega)
    · show (6 - A.ar .add .i64 i 1).toNat < (6 - i).toNat
      omega
  · have hi : i = 6 := by
      have : ¬ i < 6 := by subst hA; exact of_decide_eq_false hge
      omega
    have hcr : c = List.replicate 6 wt := by
      apply List.ext_getElem (by simp [lc])
      intro j k1 k2
      have := hc j (by omega)
      rw [List.getElem_replicate]
      simpa [List.getD_eq_getElem?_getD, k1] using this
    refine ite_intro hA0 (fun hb => ?_) (fun hb => ?_)
    · refine pair2 ?_
      subst hcr hfn hchk
      have hb : ¬ chkF (me, 0, [0, 0, 0, 0, 0, 0], List.replicate 6 wt, [false, false, false, false, false, false], ()) = 0 := by
        subst hA0
        simp only [real0, cmpR] at hb
        dsimp only [PT.den, PT.denL] at hb
        simpa using hb
      show (zeroU, chkF (me, 0, [0, 0, 0, 0, 0, 0], List.replicate 6 wt, [false, false, false, false, false, false], ())) = newF me wt
      unfold newF
      rw [if_neg hb]
    · refine pair2 ?_
      subst hcr hfn hchk
      have hb : chkF (me, 0, [0, 0, 0, 0, 0, 0], List.replicate 6 wt, [false, false, false, false, false, false], ()) = 0 := by
        subst hA0
        simp only [real0, cmpR] at hb
        dsimp only [PT.den, PT.denL] at hb
        simpa using hb
      show ((me, (0 : Int), ([0, 0, 0, 0, 0, 0] : List Int), List.replicate 6 wt, [false, false, false, false, false, false], ()), (0 : Int)) = newF me wt
      unfold newF
      rw [if_pos hb]
end Go.Proofs.Ytofccajdoekjgaa.PulseT
