/- The functions Max, Min and Within of package vect, as this seat's program has them. -/
import Derived.Test.YtikbileeohddjaaSye
import Derived.Test.YtikbileeohddjaaProg
import Derived.KernelRfl
set_option maxHeartbeats 1000000
set_option maxRecDepth 20000
set_option linter.unusedSimpArgs false
set_option linter.unusedVariables false
namespace Go.Proofs.Ytikbileeohddjaa.MatT
open Go Go.Proofs.Ytikbileeohddjaa.Sy Go.Proofs
def tab : Tab := [none, none, some (.int .i64, true), some (.int .i64, true), some (.bool, true), some (.int .u8, true), some (.int .u8, true), none, none, some (.str, true), some (.str, true), some (.str, true), some (.int .u64, true), none, none, none, none, none, none, none, none, some (.int .i32, true), some (.arr 6 (.int .i64), true), some (.arr 6 (.int .i64), true), some (.arr 6 (.arr 6 (.int .i64)), true), some (.st [.int .i64, .int .i64, .arr 6 (.arr 6 (.int .i64))], true), some (.st [.int .i64, .int .i64, .arr 6 (.arr 6 (.int .i64))], true), some (.int .i64, true), none, none, none, none, none, none, none, some (.list (.st [.int .i64, .int .i64, .int .i64]), false), some (.list (.st [.int .i64, .int .i64, .arr 6 (.arr 6 (.int .i64))]), false), some (.list (.int .i64), false), some (.list (.list (.int .i64)), false), none, none, some (.st [.int .i64, .int .i64, .int .i64], true), some (.st [.int .i64, .int .i64, .int .i64], true), none, none, none, none, none, none, none, none, none, none, none, none, none, none, none, some (.int .u32, true), some (.int .u8, true), some (.int .u8, true), none, none, some (.int .i32, true), some (.int .i32, true)]
theorem tabOk : TabOk Try.prog tab := tabOk_of (by kernel_rfl) (by kernel_rfl)
abbrev VT : PT := .arr 6 (.int .i64)
abbrev VD := VT.den
theorem pair1 {α : Type} {a b : α} (h : a = b) : (a, ()) = (b, ()) := by rw [h]
theorem pair2 {α β : Type} {a b : α} {c d : β} (h : (a, c) = (b, d)) : (a, c, ()) = (b, d, ()) := by cases h; rfl
def vecSpec (f : VD → VD → VD) : FSpec := ⟨[VT, VT], [.v, .v], [VT], [.n], fun _ => True, fun x => (f x.1 x.2.1, ())⟩
def withinSpec (f : VD → VD → Bool) : FSpec := ⟨[VT, VT], [.v, .v], [.bool], [.n], fun _ => True, fun x => (f x.1 x.2.1, ())⟩
/-- Part by part. -/
def vecF (f : Int → Int → Int) (a b : List Int) : List Int := (List.range 6).map fun j => f (a.getD j 0) (b.getD j 0)
def mxI (x y : Int) : Int := if y > x then y else x
def mnI (x y : Int) : Int := if y < x then y else x
def withinF (a b : List Int) : Bool := (List.range 6).all fun j => decide (a.getD j 0 ≤ b.getD j 0)
theorem vec_len (f : Int → Int → Int) (a b : List Int) : (vecF f a b).length = 6 := by simp [vecF]
theorem vec_at (f : Int → Int → Int) (a b : List Int) {j : Nat} (h : j < 6) : (vecF f a b).getD j 0 = f (a.getD j 0) (b.getD j 0) := by
  simp [vecF, List.getD_eq_getElem?_getD, h]
theorem vec_ext {a b : List Int} (ha : a.length = 6) (hb : b.length = 6) (h : ∀ j, j < 6 → a.getD j 0 = b.getD j 0) : a = b := by
  apply List.ext_getElem (by omega)
  intro i h1 h2
  have := h i (by omega)
  simpa [List.getD_eq_getElem?_getD, h1, h2] using this
theorem within_iff {a b : List Int} : withinF a b = true ↔ ∀ j, j < 6 → a.getD j 0 ≤ b.getD j 0 := by
  simp only [withinF, List.all_eq_true, List.mem_range, decide_eq_true_eq]
theorem getD_set {l : List Int} {i j : Nat} {v : Int} (h : i < l.length) : (l.set i v).getD j 0 = if j = i then v else l.getD j 0 := by
  simp only [List.getD_eq_getElem?_getD, List.getElem?_set]
  by_cases e : i = j
  · subst e; simp [h]
  · rw [if_neg e, if_neg (fun h => e h.symm)]
theorem listEqb_int {k : IntKind} : ∀ {x y : List Int}, listEqb (PT.int k).eqb x y = true ↔ x = y
  | [], [] => by simp [listEqb]
  | [], _ :: _ => by simp [listEqb]
  | _ :: _, [] => by simp [listEqb]
  | a :: x, b :: y => by
    have h1 : (PT.int k).eqb a b = decide (a = b) := by simp only [PT.eqb]
    simp only [listEqb, Bool.and_eq_true, h1, decide_eq_true_eq, List.cons.injEq, listEqb_int (k := k)]
theorem vec_eqb {a b : List Int} : VT.eqb a b = decide (a = b) := by
  rw [Bool.eq_iff_iff, decide_eq_true_eq]
  exact listEqb_int (k := .i64)

theorem max_runs : SpecRuns Try.prog 18 (vecSpec (vecF mxI)) := by
  obtain ⟨fn, hfn⟩ : ∃ c : VD → VD → VD, c = vecF mxI := ⟨_, rfl⟩
  rw [← hfn]
  refine runs_of_walk (s := vecSpec fn) tabOk specsOk_nil Try.func18 rfl (Nat.le_of_ble_eq_true rfl) rfl ?_
  rintro E ⟨(a : List Int), (b : List Int), ⟨⟩⟩ A0 L hP hpre hw hA0 hL
  simp only [WfA, vecSpec, Wf, WfL] at hw
  have la : a.length = 6 := hw.1.1
  have lb : b.length = 6 := hw.2.1.1
  refine ⟨?_⟩
  cbv
  refine loop_w (P := Try.prog) hP hA0 hL tabOk specsOk_nil [] [2, 6] (fun x : List Int × Int => [(2, .val (.box VT) (.b .n) x.1), (6, .val (.int .i64) .n x.2)])
    (fun x => (0 ≤ x.2 ∧ x.2 ≤ 6) ∧ x.1.length = 6 ∧ ∀ j, j < 6 → x.1.getD j 0 = if j < x.2.toNat then mxI (a.getD j 0) (b.getD j 0) else a.getD j 0) (fun x => (6 - x.2).toNat) (a, 0) (by cbv) ⟨by simp, la, by simp⟩ (by cbv) ?_
  rintro ⟨c, i⟩ ⟨⟨h0, h1'⟩, lc, hc⟩ A hA R hR
  dsimp only at h0 h1' lc hc
  refine ⟨?_⟩
  cbv
  refine ite_intro hA (fun hlt => ?_) (fun hge => ?_)
  · have hi : i < 6 := by subst hA; exact of_decide_eq_true hlt
    have hin : 0 ≤ i ∧ i < Int.ofNat 6 := ⟨h0, hi⟩
    have e1 : A.ar .add .i64 i 1 = i + 1 := by subst hA; exact add_i64 (by omega)
    refine ⟨by subst hA; exact hin, by subst hA; exact hin, by subst hA; exact hin, ?_⟩
    have e2 : A.set (.int .i64) c i (A.mx (A.get (.int .i64) c i) (A.get (.int .i64) b i)) = c.set i.toNat (mxI (c.getD i.toNat 0) (b.getD i.toNat 0)) := by subst hA; rfl
    refine hR _ (A.set (.int .i64) c i (A.mx (A.get (.int .i64) c i) (A.get (.int .i64) b i)), A.ar .add .i64 i 1) ⟨?_, ?_, ?_⟩ ?_ (by cbv)
    · show 0 ≤ A.ar .add .i64 i 1 ∧ A.ar .add .i64 i 1 ≤ 6
      omega
    · show List.length (A.set (.int .i64) c i _) = 6
      rw [e2]; exact List.length_set.trans lc
    · show ∀ j, j < 6 → List.getD (α := Int) (A.set (.int .i64) c i _) j 0 = if j < (A.ar .add .i64 i 1).toNat then _ else _
      intro j hj
      have e3 : List.getD (α := Int) (A.set (.int .i64) c i (A.mx (A.get (.int .i64) c i) (A.get (.int .i64) b i))) j 0 = if j = i.toNat then mxI (c.getD i.toNat 0) (b.getD i.toNat 0) else c.getD j 0 := by
        rw [e2]; exact getD_set (by omega)
      rw [e3, e1, hc i.toNat (by omega), if_neg (Nat.lt_irrefl _), hc j hj]
      by_cases hji : j = i.toNat
      · subst hji
        rw [if_pos rfl, if_pos (by omega)]
      · rw [if_neg hji]
        by_cases h2 : j < i.toNat
        · rw [if_pos h2, if_pos (by omega)]
        · rw [if_neg h2, if_neg (by omega)]
    · show (6 - A.ar .add .i64 i 1).toNat < (6 - i).toNat
      omega
  · have hi : i = 6 := by
      have : ¬ i < 6 := by subst hA; exact of_decide_eq_false hge
      omega
    refine pair1 ?_
    subst hfn hi
    exact vec_ext lc (vec_len _ _ _) fun j hj => by
      rw [vec_at _ _ _ hj, hc j hj, if_pos (by omega)]
theorem min_runs : SpecRuns Try.prog 16 (vecSpec (vecF mnI)) := by
  obtain ⟨fn, hfn⟩ : ∃ c : VD → VD → VD, c = vecF mnI := ⟨_, rfl⟩
  rw [← hfn]
  refine runs_of_walk (s := vecSpec fn) tabOk specsOk_nil Try.func16 rfl (Nat.le_of_ble_eq_true rfl) rfl ?_
  rintro E ⟨(a : List Int), (b : List Int), ⟨⟩⟩ A0 L hP hpre hw hA0 hL
  simp only [WfA, vecSpec, Wf, WfL] at hw
  have la : a.length = 6 := hw.1.1
  have lb : b.length = 6 := hw.2.1.1
  refine ⟨?_⟩
  cbv
  refine loop_w (P := Try.prog) hP hA0 hL tabOk specsOk_nil [] [2, 6] (fun x : List Int × Int => [(2, .val (.box VT) (.b .n) x.1), (6, .val (.int .i64) .n x.2)])
    (fun x => (0 ≤ x.2 ∧ x.2 ≤ 6) ∧ x.1.length = 6 ∧ ∀ j, j < 6 → x.1.getD j 0 = if j < x.2.toNat then mnI (a.getD j 0) (b.getD j 0) else a.getD j 0) (fun x => (6 - x.2).toNat) (a, 0) (by cbv) ⟨by simp, la, by simp⟩ (by cbv) ?_
  rintro ⟨c, i⟩ ⟨⟨h0, h1'⟩, lc, hc⟩ A hA R hR
  dsimp only at h0 h1' lc hc
  refine ⟨?_⟩
  cbv
  refine ite_intro hA (fun hlt => ?_) (fun hge => ?_)
  · have hi : i < 6 := by subst hA; exact of_decide_eq_true hlt
    have hin : 0 ≤ i ∧ i < Int.ofNat 6 := ⟨h0, hi⟩
    have e1 : A.ar .add .i64 i 1 = i + 1 := by subst hA; exact add_i64 (by omega)
    refine ⟨by subst hA; exact hin, by subst hA; exact hin, by subst hA; exact hin, ?_⟩
    have e2 : A.set (.int .i64) c i (A.mn (A.get (.int .i64) c i) (A.get (.int .i64) b i)) = c.set i.toNat (mnI (c.getD i.toNat 0) (b.getD i.toNat 0)) := by subst hA; rfl
    refine hR _ (A.set (.int .i64) c i (A.mn (A.get (.int .i64) c i) (A.get (.int .i64) b i)), A.ar .add .i64 i 1) ⟨?_, ?_, ?_⟩ ?_ (by cbv)
    · show 0 ≤ A.ar .add .i64 i 1 ∧ A.ar .add .i64 i 1 ≤ 6
      omega
    · show List.length (A.set (.int .i64) c i _) = 6
      rw [e2]; exact List.length_set.trans lc
    · show ∀ j, j < 6 → List.getD (α := Int) (A.set (.int .i64) c i _) j 0 = if j < (A.ar .add .i64 i 1).toNat then _ else _
      intro j hj
      have e3 : List.getD (α := Int) (A.set (.int .i64) c i (A.mn (A.get (.int .i64) c i) (A.get (.int .i64) b i))) j 0 = if j = i.toNat then mnI (c.getD i.toNat 0) (b.getD i.toNat 0) else c.getD j 0 := by
        rw [e2]; exact getD_set (by omega)
      rw [e3, e1, hc i.toNat (by omega), if_neg (Nat.lt_irrefl _), hc j hj]
      by_cases hji : j = i.toNat
      · subst hji
        rw [if_pos rfl, if_pos (by omega)]
      · rw [if_neg hji]
        by_cases h2 : j < i.toNat
        · rw [if_pos h2, if_pos (by omega)]
        · rw [if_neg h2, if_neg (by omega)]
    · show (6 - A.ar .add .i64 i 1).toNat < (6 - i).toNat
      omega
  · have hi : i = 6 := by
      have : ¬ i < 6 := by subst hA; exact of_decide_eq_false hge
      omega
    refine pair1 ?_
    subst hfn hi
    exact vec_ext lc (vec_len _ _ _) fun j hj => by
      rw [vec_at _ _ _ hj, hc j hj, if_pos (by omega)]
theorem within_runs : SpecRuns Try.prog 10 (withinSpec withinF) := by
  obtain ⟨fn, hfn⟩ : ∃ c : VD → VD → Bool, c = withinF := ⟨_, rfl⟩
  rw [← hfn]
  refine runs_of_walk (s := withinSpec fn) tabOk specsOk_nil Try.func10 rfl (Nat.le_of_ble_eq_true rfl) rfl ?_
  rintro E ⟨(a : List Int), (b : List Int), ⟨⟩⟩ A0 L hP hpre hw hA0 hL
  simp only [WfA, withinSpec, Wf, WfL] at hw
  have la : a.length = 6 := hw.1.1
  have lb : b.length = 6 := hw.2.1.1
  refine ⟨?_⟩
  cbv
  refine loop_w (P := Try.prog) hP hA0 hL tabOk specsOk_nil [] [6] (fun x : Int => [(6, .val (.int .i64) .n x)])
    (fun x => (0 ≤ x ∧ x ≤ 6) ∧ ∀ j, j < x.toNat → a.getD j 0 ≤ b.getD j 0) (fun x => (6 - x).toNat) 0 (by cbv) ⟨by simp, by simp⟩ (by cbv) ?_
  rintro i ⟨⟨h0, h1'⟩, hc⟩ A hA R hR
  refine ⟨?_⟩
  cbv
  refine ite_intro hA (fun hlt => ?_) (fun hge => ?_)
  · have hi : i < 6 := by subst hA; exact of_decide_eq_true hlt
    have hin : 0 ≤ i ∧ i < Int.ofNat 6 := ⟨h0, hi⟩
    have e1 : A.ar .add .i64 i 1 = i + 1 := by subst hA; exact add_i64 (by omega)
    refine ⟨by subst hA; exact hin, by subst hA; exact hin, ite_intro hA (fun hb => ?_) (fun hb => ?_)⟩
    · have hb : a.getD i.toNat 0 > b.getD i.toNat 0 := by subst hA; exact of_decide_eq_true hb
      refine pair1 ?_
      subst hfn
      show false = withinF a b
      cases hx : withinF a b
      · rfl
      · have := within_iff.1 hx i.toNat (by omega)
        omega
    · have hb : ¬ a.getD i.toNat 0 > b.getD i.toNat 0 := by subst hA; exact of_decide_eq_false hb
      refine hR _ (A.ar .add .i64 i 1) ⟨?_, ?_⟩ ?_ (by cbv)
      · omega
      · intro j hj
        rw [e1] at hj
        by_cases hji : j = i.toNat
        · subst hji; omega
        · exact hc j (by omega)
      · omega
  · have hi : i = 6 := by
      have : ¬ i < 6 := by subst hA; exact of_decide_eq_false hge
      omega
    refine pair1 ?_
    subst hfn hi
    show true = withinF a b
    exact (within_iff.2 fun j hj => hc j (by omega)).symm
end Go.Proofs.Ytikbileeohddjaa.MatT
