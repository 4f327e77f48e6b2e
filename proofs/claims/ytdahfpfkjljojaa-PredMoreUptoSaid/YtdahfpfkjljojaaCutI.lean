/- Predicates over cuts: must it be so? -/
import Derived.Test.YtdahfpfkjljojaaCutH
open Go Go.Proofs.Ytdahfpfkjljojaa.Sy Go.Proofs.Ytdahfpfkjljojaa.Pu
set_option linter.unusedVariables false
set_option linter.unusedSimpArgs false
namespace Go.Proofs.Ytdahfpfkjljojaa.Ct
open Go.Proofs.Ytdahfpfkjljojaa.Vc (EV dE z6 evp evk evm VectRun cnt cntV chkF withinF maxV minV)
/-- Cuts that one may come to without it. -/
inductive Reach (h : List EV) (st : List (List (List Int))) (T : List (List Bool)) : List Int → Prop
  | zero : ¬ So T Z6 → Reach h st T Z6
  | step {b : List Int} {p : Nat} : Reach h st T b → p < 6 → Valid (NF h) (b.set p (b.getD p 0 + 1)) → Closed (SF st) ((b.set p (b.getD p 0 + 1)).getD · 0) → ¬ So T (b.set p (b.getD p 0 + 1)) → Reach h st T (b.set p (b.getD p 0 + 1))
noncomputable def is1 (p : Prop) : Int := @ite Int p (Classical.propDecidable p) 1 0
theorem is1_t {p : Prop} (h : p) : is1 p = 1 := @if_pos p (Classical.propDecidable p) h _ _ _
theorem is1_f {p : Prop} (h : ¬ p) : is1 p = 0 := @if_neg p (Classical.propDecidable p) h _ _ _
theorem is1_congr {p q : Prop} (h : p ↔ q) : is1 p = is1 q := by rw [propext h]
theorem mgA_same (m : List (List Int × Int)) (k : List Int) (x : Int) : mgetA6II (msetA6II m k x) k = x := mget_same (kt := .arr 6 (.int .i64)) (vt := .int .i64) rfl m k x
theorem mgA_other (m : List (List Int × Int)) (k : List Int) (x : Int) {k' : List Int} (hk : k' ≠ k) : mgetA6II (msetA6II m k x) k' = mgetA6II m k' := mget_other (kt := .arr 6 (.int .i64)) (vt := .int .i64) rfl m k x hk
theorem allTo_at (h : List EV) (st : List (List (List Int))) : ∀ (n k : Nat), k < (allTo h st n).length → ∃ m, m < n ∧ (allTo h st n).take k = allTo h st m ∧ (allTo h st n).getD k z6 = dec (nsOf h) m ∧ clB st (dec (nsOf h) m) = true
  | 0, k, hk => by simp [allTo] at hk
  | n + 1, k, hk => by
    rw [allTo_succ] at hk ⊢
    by_cases e : clB st (dec (nsOf h) n) = true
    · rw [if_pos e] at hk ⊢
      by_cases e2 : k < (allTo h st n).length
      · obtain ⟨m, m1, m2, m3, m4⟩ := allTo_at h st n k e2
        refine ⟨m, by omega, ?_, ?_, m4⟩
        · rw [List.take_append_of_le_length (by omega), m2]
        · rw [getD_app, if_neg (by omega), m3]
      · have e3 : k = (allTo h st n).length := by
          rw [List.length_append] at hk
          simp only [List.length_cons, List.length_nil] at hk
          omega
        subst e3
        exact ⟨n, by omega, List.take_left' rfl, by rw [getD_app, if_pos rfl], e⟩
    · rw [if_neg e] at hk ⊢
      obtain ⟨m, m1, m2⟩ := allTo_at h st n k hk
      exact ⟨m, by omega, m2⟩
section
variable {h : List EV} {v : List (List Int)} {st : List (List (List Int))} {T : List (List Bool)}
theorem Reach.facts (X : Cx h v st) {c : List Int} (hr : Reach h st T c) : Valid (NF h) c ∧ Closed (SF st) (c.getD · 0) ∧ ¬ So T c := by
  cases hr with
  | zero hn => exact ⟨zero_valid X, zero_closed, hn⟩
  | step _ _ h1 h2 h3 => exact ⟨h1, h2, h3⟩
theorem Reach.start (X : Cx h v st) {c : List Int} (hr : Reach h st T c) : ¬ So T Z6 := by
  induction hr with
  | zero hn => exact hn
  | step _ _ _ _ _ ih => exact ih
theorem bump_at {b : List Int} (hl : b.length = 6) {p : Nat} (hp : p < 6) (x : Int) (j : Nat) : (b.set p x).getD j 0 = if j = p then x else b.getD j 0 := getD_setD (by omega)
/-- What the loop over one cut's ways finds. -/
theorem must_L2 (X : Cx h v st) {way : List (List Int × Int)} {m : Nat} (hm : m < Pn h) (hway : ∀ b : List Int, mgetA6II way b = is1 (b ∈ allTo h st m ∧ Reach h st T b)) (hcl : Closed (SF st) ((dec (nsOf h) m).getD · 0)) (hns : ¬ So T (dec (nsOf h) m)) :
    ∃ r, loopO (fun x : Bool × Int => pred_Must_L2 way (dec (nsOf h) m) x.1 x.2) (eqA6I (dec (nsOf h) m) Z6, (0 : Int)) = some r ∧ (r = true ↔ Reach h st T (dec (nsOf h) m)) := by
  have hv := dec_valid hm
  have hpos : ∀ b, 0 < mgetA6II way b ↔ b ∈ allTo h st m ∧ Reach h st T b := fun b => by
    rw [hway b]
    by_cases e : b ∈ allTo h st m ∧ Reach h st T b
    · rw [is1_t e]; exact ⟨fun _ => e, fun _ => by decide⟩
    · rw [is1_f e]; exact ⟨fun hx => absurd hx (by decide), fun hx => absurd hx e⟩
  obtain ⟨r, r1, r2⟩ := loop_count (B := fun x : Bool × Int => pred_Must_L2 way (dec (nsOf h) m) x.1 x.2) (fun k x => x.2 = (k : Int) ∧ (x.1 = true ↔ dec (nsOf h) m = Z6 ∨ ∃ p, p < k ∧ 0 < (dec (nsOf h) m).getD p 0 ∧ (dec (nsOf h) m).set p ((dec (nsOf h) m).getD p 0 - 1) ∈ allTo h st m ∧ Reach h st T ((dec (nsOf h) m).set p ((dec (nsOf h) m).getD p 0 - 1)))) 6 (fun r => r = true ↔ dec (nsOf h) m = Z6 ∨ ∃ p, p < 6 ∧ 0 < (dec (nsOf h) m).getD p 0 ∧ (dec (nsOf h) m).set p ((dec (nsOf h) m).getD p 0 - 1) ∈ allTo h st m ∧ Reach h st T ((dec (nsOf h) m).set p ((dec (nsOf h) m).getD p 0 - 1))) (x := (eqA6I (dec (nsOf h) m) Z6, (0 : Int))) ⟨rfl, by
      rw [eqA6I_iff]
      constructor
      · exact .inl
      · rintro (hx | ⟨p, hp, _⟩)
        · exact hx
        · omega⟩ (by
    rintro k ⟨a, kk⟩ hk ⟨e1, e2⟩
    dsimp only at e1 e2
    subst e1
    have hr := hv.rng k hk
    have hn : NF h k ≤ 60 := (X.fact.nn k hk).2
    unfold pred_Must_L2 pred_Must_J3
    dsimp only
    rw [if_true' (dec_t (by omega)), ck_in (by omega), Int.toNat_natCast, inc64 (by omega)]
    by_cases e3 : 0 < (dec (nsOf h) m).getD k 0
    · rw [if_true' (dec_t e3), ck_in (by omega), ck_in (by omega), letO_def, sub64 (by omega) (by omega)]
      refine ⟨_, rfl, rfl, ?_⟩
      dsimp only
      rw [Bool.or_eq_true, e2, decide_eq_true_eq, gt_iff_lt, hpos]
      constructor
      · rintro ((hx | ⟨p, hp, hx⟩) | hx)
        · exact .inl hx
        · exact .inr ⟨p, by omega, hx⟩
        · exact .inr ⟨k, by omega, e3, hx⟩
      · rintro (hx | ⟨p, hp, hx⟩)
        · exact .inl (.inl hx)
        · by_cases e4 : p = k
          · rw [e4] at hx; exact .inr hx.2
          · exact .inl (.inr ⟨p, by omega, hx⟩)
    · rw [if_false' (dec_f e3)]
      refine ⟨_, rfl, rfl, ?_⟩
      dsimp only
      rw [e2]
      constructor
      · rintro (hx | ⟨p, hp, hx⟩)
        · exact .inl hx
        · exact .inr ⟨p, by omega, hx⟩
      · rintro (hx | ⟨p, hp, hx⟩)
        · exact .inl hx
        · by_cases e4 : p = k
          · rw [e4] at hx; exact absurd hx.1 e3
          · exact .inr ⟨p, by omega, hx⟩) (by
    rintro ⟨a, kk⟩ ⟨e1, e2⟩
    dsimp only at e1 e2
    subst e1
    unfold pred_Must_L2
    dsimp only
    rw [if_false' (dec_f (by omega))]
    exact ⟨_, rfl, e2⟩)
  refine ⟨r, r1, ?_⟩
  rw [r2]
  generalize hc : dec (nsOf h) m = c at *
  constructor
  · rintro (hx | ⟨p, hp, h0, h1, h2⟩)
    · rw [hx] at hns ⊢
      exact .zero hns
    · have hb : ((c.set p (c.getD p 0 - 1)).set p ((c.set p (c.getD p 0 - 1)).getD p 0 + 1)) = c := by
        refine ext_getD 0 (by simp) fun j hj => ?_
        rw [bump_at (by rw [List.length_set]; exact hv.len) hp, bump_at hv.len hp, bump_at hv.len hp, if_pos rfl]
        split
        · rename_i e; subst e; omega
        · rfl
      have := Reach.step h2 hp (by rw [hb]; exact hv) (by rw [hb]; exact hcl) (by rw [hb]; exact hns)
      rw [hb] at this
      exact this
  · intro hr
    cases hr with
    | zero _ => exact .inl rfl
    | @step b p h1 hp h2 h3 h4 =>
      right
      obtain ⟨f1, f2, _⟩ := h1.facts X
      have hbp := bump_at f1.len hp (b.getD p 0 + 1)
      have hback : (b.set p (b.getD p 0 + 1)).set p ((b.set p (b.getD p 0 + 1)).getD p 0 - 1) = b := by
        refine ext_getD 0 (by simp) fun j hj => ?_
        rw [bump_at (by rw [List.length_set]; exact f1.len) hp, hbp p, if_pos rfl, hbp j]
        split
        · rename_i e; subst e; omega
        · rfl
      refine ⟨p, hp, by rw [hbp p, if_pos rfl]; have := (f1.rng p hp).1; omega, ?_, ?_⟩
      · rw [hback]
        obtain ⟨mb, mb1, mb2⟩ := valid_dec f1
        have hlt : mb < m := by
          refine dec_lt (nsOf h) mb m p mb1 hm (by rw [nsOf_len]; exact hp) (fun j hj => ?_) ?_
          · rw [mb2, hc, hbp j, if_neg (by omega)]
          · rw [mb2, hc, hbp p, if_pos rfl]; omega
        unfold allTo
        refine List.mem_filter.2 ⟨List.mem_map.2 ⟨mb, List.mem_range.2 hlt, mb2⟩, clB_iff.2 f2⟩
      · rw [hback]; exact h1
theorem Must_ok (X : Cx h v st) (hT : Truth h T) (hP : Pn h ≤ 4096) : ∃ b, pred_Must h T = some (b, 0) ∧ (b = true ↔ ¬ Reach h st T (cntV h h.length)) := by
  have hl2 := allTo_len h st (Pn h)
  obtain ⟨way, w1, w2⟩ := loop_count (B := fun x : List (List Int × Int) × Int => pred_Must_L1 T (allTo h st (Pn h), 0) ((allTo h st (Pn h)).length : Int) x.1 x.2) (fun k x => x.2 = (k : Int) ∧ ∀ b : List Int, mgetA6II x.1 b = is1 (b ∈ (allTo h st (Pn h)).take k ∧ Reach h st T b)) (allTo h st (Pn h)).length (fun way => ∀ b : List Int, mgetA6II way b = is1 (b ∈ allTo h st (Pn h) ∧ Reach h st T b)) (x := (([] : List (List Int × Int)), (0 : Int))) ⟨rfl, fun b => by rw [is1_f (fun hx => by simp at hx)]; rfl⟩ (by
    rintro k ⟨way, kk⟩ hk ⟨e1, e2⟩
    dsimp only at e1 e2
    subst e1
    obtain ⟨m, m1, m2, m3, m4⟩ := allTo_at h st (Pn h) k hk
    have hv := dec_valid m1
    have hcl := clB_iff.1 m4
    obtain ⟨b, _, b1, b2⟩ := so_ok X hT hv
    have htk : (allTo h st (Pn h)).take (k + 1) = (allTo h st (Pn h)).take k ++ [dec (nsOf h) m] := by
      rw [List.take_add_one, List.getElem?_eq_getElem hk]
      rw [getD_lt hk] at m3
      rw [m3]
      rfl
    unfold pred_Must_L1
    dsimp only
    rw [if_true' (dec_t (by omega)), ck_in (by omega), letO_def, Int.toNat_natCast, show (allTo h st (Pn h)).getD k (List.replicate 6 (0 : Int)) = dec (nsOf h) m from m3, bind_of b1, inc64 (by omega)]
    by_cases e3 : b = true
    · rw [if_true' e3]
      refine ⟨_, rfl, rfl, fun c => ?_⟩
      dsimp only
      rw [e2 c, htk]
      refine is1_congr ?_
      constructor
      · rintro ⟨x1, x2⟩; exact ⟨List.mem_append_left _ x1, x2⟩
      · rintro ⟨x1, x2⟩
        rcases List.mem_append.1 x1 with x1 | x1
        · exact ⟨x1, x2⟩
        · rw [List.mem_singleton] at x1
          subst x1
          exact absurd (b2.1 e3) (x2.facts X).2.2
    · have hns : ¬ So T (dec (nsOf h) m) := fun hx => e3 (b2.2 hx)
      obtain ⟨r, r1, r2⟩ := must_L2 X m1 (by rw [← m2]; exact e2) hcl hns
      rw [if_false' (Bool.eq_false_iff.2 e3), letO_def, bind_of r1, mergeO_def]
      refine ⟨_, rfl, rfl, fun c => ?_⟩
      dsimp only
      rw [htk]
      by_cases e4 : r = true
      · rw [if_pos e4]
        by_cases e5 : c = dec (nsOf h) m
        · subst e5
          rw [mgA_same, is1_t ⟨List.mem_append_right _ (by simp), r2.1 e4⟩]
        · rw [mgA_other _ _ _ e5, e2 c]
          refine is1_congr ?_
          simp only [List.mem_append, List.mem_singleton]
          exact ⟨fun x => ⟨.inl x.1, x.2⟩, fun x => ⟨x.1.resolve_right e5, x.2⟩⟩
      · rw [if_neg e4, e2 c]
        refine is1_congr ?_
        simp only [List.mem_append, List.mem_singleton]
        refine ⟨fun x => ⟨.inl x.1, x.2⟩, fun x => ⟨x.1.resolve_right fun e5 => e4 (r2.2 (e5 ▸ x.2)), x.2⟩⟩) (by
    rintro ⟨way, kk⟩ ⟨e1, e2⟩
    dsimp only at e1 e2
    subst e1
    unfold pred_Must_L1
    dsimp only
    rw [if_false' (dec_f (by omega))]
    exact ⟨_, rfl, fun b => by rw [e2 b, List.take_length]⟩)
  refine ⟨(mgetA6II way (cntV h h.length)) == (0 : Int), ?_, ?_⟩
  · unfold pred_Must
    rw [bind_of (pcheck_ok X hT), if_false' (by rfl), bind_of (All_ok X hP), if_false' (by rfl), bind_of (psizes_eq X.good), letO_def, bind_of w1]
  · rw [beq_iff_eq, w2]
    have hin : cntV h h.length ∈ allTo h st (Pn h) := mem_all.2 ⟨valid_pref X _ (Nat.le_refl _), closed_cntV X _ (Nat.le_refl _)⟩
    constructor
    · intro hx hr
      rw [is1_t ⟨hin, hr⟩] at hx
      exact absurd hx (by decide)
    · intro hr
      rw [is1_f (fun x => hr x.2)]
theorem Must_large (X : Cx h v st) (hT : Truth h T) (hP : 4096 < Pn h) : pred_Must h T = some (false, 2) := by
  unfold pred_Must
  rw [bind_of (pcheck_ok X hT), if_false' (by rfl), bind_of (All_large X hP), if_true' (by rfl)]
/-- One may go with what came in its order. -/
theorem reach_pref (X : Cx h v st) (hn : ∀ k, k ≤ h.length → ¬ So T (cntV h k)) : ∀ k, k ≤ h.length → Reach h st T (cntV h k)
  | 0, hk => by
    have e : cntV h 0 = Z6 := rfl
    have := hn 0 hk
    rw [e] at this ⊢
    exact .zero this
  | k + 1, hk => by
    have ih := reach_pref X hn k (by omega)
    obtain ⟨p0, p6, _, _⟩ := X.good.ev k (by omega)
    have h0 : 0 ≤ cnt h (evp h k) k := Vc.cnt_nonneg
    have h1 : cnt h (evp h k) k ≤ k := Vc.cnt_le k
    have hl := X.good.len
    have e := set_cnt X.good (show k < h.length by omega)
    have e3 : (((evp h k).toNat : Nat) : Int) = evp h k := by omega
    rw [add64 (by rw [Vc.cntV_at (by omega), e3]; omega) (by rw [Vc.cntV_at (by omega), e3]; omega)] at e
    have := Reach.step ih (p := (evp h k).toNat) (by omega) (by rw [e]; exact valid_pref X _ hk) (by rw [e]; exact closed_cntV X _ hk) (by rw [e]; exact hn _ hk)
    rw [e] at this
    exact this
theorem must_first (X : Cx h v st) (hm : ¬ Reach h st T (cntV h h.length)) : ∃ d, Fit h st T d := by
  refine Classical.byContradiction fun hn => hm (reach_pref X (fun k hk hs => hn ⟨_, valid_pref X k hk, closed_cntV X k hk, hs⟩) _ (Nat.le_refl _))
theorem Right_any (X : Cx h v st) {c : List Int} (hl : c.length = 6) : ∃ b e, cut_Right h c = some (b, e) ∧ ((e = 0 ∧ b = true) ↔ Valid (NF h) c ∧ Closed (SF st) (c.getD · 0)) := by
  by_cases hv : Valid (NF h) c
  · obtain ⟨b, b1, b2⟩ := Right_ok X hv
    exact ⟨b, 0, b1, ⟨fun x => ⟨hv, b2.1 x.2⟩, fun x => ⟨rfl, b2.2 x.2⟩⟩⟩
  · refine ⟨false, 1, ?_, ⟨fun x => absurd x.2 (by decide), fun x => absurd x.1 hv⟩⟩
    unfold cut_Right
    have hck : cut_Check h c = some 1 := by
      have key : withinF [(0 : Int), (0 : Int), (0 : Int), (0 : Int), (0 : Int), (0 : Int)] c = false ∨ withinF c (cntV h h.length) = false := by
        cases h1 : withinF [(0 : Int), (0 : Int), (0 : Int), (0 : Int), (0 : Int), (0 : Int)] c with
        | false => exact .inl rfl
        | true =>
          cases h2 : withinF c (cntV h h.length) with
          | false => exact .inr rfl
          | true =>
            refine absurd ⟨hl, fun j hj => ⟨?_, ?_⟩⟩ hv
            · have := Vc.within_iff.1 h1 j hj
              rw [Z6_at] at this
              exact this
            · have := Vc.within_iff.1 h2 j hj
              rw [Vc.cntV_at hj] at this
              exact this
      unfold cut_Check
      rw [bind_of (chk_eq h), X.chk, if_false' (by rfl), bind_of (within_eq _ _), sizes_eq X.good, letO_def, ck_in (fun _ => by rfl)]
      simp only [Option.getD_some]
      rw [within_eq, letO_def, ck_in (fun _ => by rfl)]
      simp only [Option.getD_some]
      rcases key with e | e
      · rw [e, if_true' (by rfl)]
      · rw [e, if_true' (by simp)]
    rw [bind_of hck, if_true' (by rfl)]
theorem sum_cnt (hg : Vc.Good h) : ∀ k, k ≤ h.length → sum6 (fun p => cnt h (p : Int) k) = (k : Int)
  | 0, _ => rfl
  | k + 1, hk => by
    have ih := sum_cnt hg k (by omega)
    obtain ⟨p0, p6, _, _⟩ := hg.ev k (by omega)
    unfold sum6 at ih ⊢
    simp only [cnt_succ]
    rcases (by omega : evp h k = 0 ∨ evp h k = 1 ∨ evp h k = 2 ∨ evp h k = 3 ∨ evp h k = 4 ∨ evp h k = 5) with e | e | e | e | e | e <;> rw [e] <;> simp at ih ⊢ <;> omega
theorem sum6_bump {c : List Int} (hl : c.length = 6) {p : Nat} (hp : p < 6) : sum6 ((c.set p (c.getD p 0 + 1)).getD · 0) = sum6 (c.getD · 0) + 1 := by
  unfold sum6
  dsimp only
  rw [bump_at hl hp, bump_at hl hp, bump_at hl hp, bump_at hl hp, bump_at hl hp, bump_at hl hp]
  rcases (by omega : p = 0 ∨ p = 1 ∨ p = 2 ∨ p = 3 ∨ p = 4 ∨ p = 5) with rfl | rfl | rfl | rfl | rfl | rfl <;> simp <;> omega
/-- The way goes on by one event. -/
theorem walk_L3 (X : Cx h v st) {c : List Int} (hv : Valid (NF h) c) (hc : Closed (SF st) (c.getD · 0)) (hlt : sum6 (c.getD · 0) < h.length) {p0 : Nat} (hp0 : p0 < 6) :
    ∃ p, p < 6 ∧ loopO (fun x : Int × Int => PredMust_L3 h c x.1 x.2) ((p0 : Int), (0 : Int)) = some (c.set p (c.getD p 0 + 1)) ∧ Valid (NF h) (c.set p (c.getD p 0 + 1)) ∧ Closed (SF st) ((c.set p (c.getD p 0 + 1)).getD · 0) := by
  obtain ⟨q, q1, q2, q3⟩ := closed_step X hv.rng hc (by
    refine Classical.byContradiction fun hn => ?_
    have h1 := sum6_le (f := NF h) (g := (c.getD · 0)) (fun j hj => by
      refine Classical.byContradiction fun hx => hn ⟨j, hj, ?_⟩
      omega)
    have h2 := sum_cnt X.good h.length (Nat.le_refl _)
    have h3 : sum6 (NF h) = (h.length : Int) := h2
    omega)
  have hqv : Valid (NF h) (c.set q (c.getD q 0 + 1)) := ⟨by rw [List.length_set]; exact hv.len, fun j hj => by
    rw [bump_at hv.len q1]
    have := hv.rng j hj
    split
    · rename_i e; subst e; omega
    · exact this⟩
  have hqc : Closed (SF st) ((c.set q (c.getD q 0 + 1)).getD · 0) := closed_congr (fun j _ => by
    rw [bump_at hv.len q1]
    split
    · rename_i e; rw [e]
    · rfl) q3
  obtain ⟨z, z1, z2⟩ := loop_countE (B := fun x : Int × Int => PredMust_L3 h c x.1 x.2) (fun k x => x.2 = (k : Int) ∧ x.1 = (((p0 + k) % 6 : Nat) : Int) ∧ ∀ i, i < k → (p0 + i) % 6 ≠ q) 6 (fun z => ∃ p, p < 6 ∧ z = c.set p (c.getD p 0 + 1) ∧ Valid (NF h) (c.set p (c.getD p 0 + 1)) ∧ Closed (SF st) ((c.set p (c.getD p 0 + 1)).getD · 0)) (x := ((p0 : Int), (0 : Int))) ⟨rfl, by rw [Nat.add_zero, Nat.mod_eq_of_lt hp0], fun i hi => by omega⟩ (by
    rintro k ⟨p, kk⟩ hk ⟨e1, e2, e3⟩
    dsimp only at e1 e2
    subst e1 e2
    have hm : (p0 + k) % 6 < 6 := Nat.mod_lt _ (by omega)
    have hr := hv.rng _ hm
    have hn : NF h ((p0 + k) % 6) ≤ 60 := (X.fact.nn _ hm).2
    obtain ⟨b, e, b1, b2⟩ := Right_any X (c := c.set ((p0 + k) % 6) (c.getD ((p0 + k) % 6) 0 + 1)) (by rw [List.length_set]; exact hv.len)
    unfold PredMust_L3
    dsimp only
    rw [if_true' (dec_t (by omega)), ck_in (by omega), ck_in (by omega), letO_def, Int.toNat_natCast, add64 (by omega) (by omega), bind_of b1]
    by_cases hok : e = 0 ∧ b = true
    · rw [if_true' (by rw [Bool.and_eq_true]; exact ⟨by rw [beq_iff_eq]; exact hok.1, hok.2⟩)]
      have := b2.1 hok
      exact .inr ⟨_, rfl, _, hm, rfl, this.1, this.2⟩
    · rw [if_false' (by
        rw [Bool.and_eq_false_iff]
        by_cases he : e = 0
        · right; exact Bool.eq_false_iff.2 fun hx => hok ⟨he, hx⟩
        · left; rw [beq_eq_false_iff_ne]; exact he), ck_in (by decide), letO_def, inc64 (by omega), inc64 (by omega), show ∀ a : Nat, arR .rem .i64 (a : Int) (6 : Int) = ((a % 6 : Nat) : Int) from fun a => rem_nat a 6]
      refine .inl ⟨_, rfl, rfl, ?_, fun i hi => ?_⟩
      · dsimp only
        congr 1
        omega
      · by_cases ei : i = k
        · rw [ei]
          intro eq
          exact hok (b2.2 (by rw [eq]; exact ⟨hqv, hqc⟩))
        · exact e3 i (by omega)) (by
    rintro ⟨p, kk⟩ ⟨e1, e2, e3⟩
    exfalso
    refine e3 ((q + 6 - p0) % 6) (Nat.mod_lt _ (by omega)) ?_
    omega)
  obtain ⟨p, p1, p2, p3⟩ := z2
  exact ⟨p, p1, by rw [z1, p2], p3⟩
end
theorem sent_must : ∃ T, late sentH = some T ∧ pred_Must sentH T = some (true, 0) := by
  obtain ⟨v, st, X⟩ := cx_of (h := sentH) (by decide +kernel)
  obtain ⟨T, t1, t2, t3⟩ := truth_ok X lateL
  have hP : Pn sentH = 4 := by decide +kernel
  obtain ⟨b, b1, b2⟩ := Must_ok X t2 (by rw [hP]; decide)
  refine ⟨T, by rw [late_eq]; exact t1, ?_⟩
  rw [b1, b2.2 fun hr => (hr.facts X).2.2 ((sent_so t3 (valid_pref X _ (Nat.le_refl _))).2 (by decide +kernel))]
theorem must_law (h : List EV) (of way : List Int) (hw : way.length ≤ 4294967296) : PredMust h of way = some true := by
  unfold PredMust
  obtain ⟨T0, a1, a2⟩ := sent_must
  rw [show sent = some sentH from rfl, bind_of rfl, bind_of rfl, bind_of a1, bind_of a2, if_false' (by rfl), bind_of (chk_eq h)]
  by_cases hc : chkF h = 0
  · obtain ⟨v, st, X⟩ := cx_of hc
    obtain ⟨T, t1, t2, t3⟩ := truth_ok X of
    rw [if_false' (by rw [hc]; rfl), bind_of t1]
    by_cases hP : Pn h ≤ 4096
    · obtain ⟨b, b1, b2⟩ := Must_ok X t2 hP
      have hl := X.good.len
      rw [bind_of b1, if_false' (by rfl), letO_def, show List.replicate 6 (0 : Int) = Z6 from rfl]
      obtain ⟨s0, s1, _, s2⟩ := so_ok X t2 (zero_valid X)
      rw [bind_of s1, letO_def]
      obtain ⟨⟨c, so⟩, z1, z2⟩ := loop_count (B := fun x : List Int × Bool × Int => PredMust_L1 h way T (h.length : Int) x.1 x.2.1 x.2.2) (fun k x => x.2.2 = (k : Int) ∧ Valid (NF h) x.1 ∧ Closed (SF st) (x.1.getD · 0) ∧ sum6 (x.1.getD · 0) = (k : Int) ∧ (x.2.1 = false → Reach h st T x.1)) h.length (fun z => Valid (NF h) z.1 ∧ sum6 (z.1.getD · 0) = (h.length : Int) ∧ (z.2 = false → Reach h st T z.1)) (x := (Z6, s0, (0 : Int))) ⟨rfl, zero_valid X, zero_closed, rfl, fun hx => .zero fun hs => by rw [s2.2 hs] at hx; cases hx⟩ (by
        rintro k ⟨c, so, kk⟩ hk ⟨e1, e2, e3, e4, e5⟩
        dsimp only at e1 e2 e3 e4 e5
        subst e1
        have hJ : ∀ p0 : Nat, p0 < 6 → ∃ x', PredMust_J2 h T c so (k : Int) (p0 : Int) = some (.inl x') ∧ x'.2.2 = ((k + 1 : Nat) : Int) ∧ Valid (NF h) x'.1 ∧ Closed (SF st) (x'.1.getD · 0) ∧ sum6 (x'.1.getD · 0) = ((k + 1 : Nat) : Int) ∧ (x'.2.1 = false → Reach h st T x'.1) := by
          intro p0 hp0
          obtain ⟨p, p1, p2, p3, p4⟩ := walk_L3 X e2 e3 (by rw [e4]; omega) hp0
          obtain ⟨d, d1, _, d2⟩ := so_ok X t2 p3
          unfold PredMust_J2
          rw [bind_of p2, d1, letO_def, ck_in (by intro _; rfl), letO_def, inc64 (by omega)]
          refine ⟨_, rfl, rfl, p3, p4, ?_, fun hx => ?_⟩
          · dsimp only
            rw [sum6_bump e2.len p1, e4]
            omega
          · dsimp only [Option.getD_some] at hx ⊢
            rw [Bool.or_eq_false_iff] at hx
            exact .step (e5 hx.1) p1 p3 p4 fun hs => by rw [d2.2 hs] at hx; exact absurd hx.2 (by decide)
        unfold PredMust_L1
        dsimp only
        rw [if_true' (dec_t (by omega))]
        by_cases hkw : k < way.length
        · rw [if_true' (dec_t (by omega)), ck_in (by omega), bind_of (rest_eq _ 6 (by decide) (by decide))]
          have q1 := Int.emod_nonneg (way.getD (k : Int).toNat 0) (show (6 : Int) ≠ 0 by decide)
          have q2 := Int.emod_lt_of_pos (way.getD (k : Int).toNat 0) (show (0 : Int) < 6 by decide)
          obtain ⟨p0, hp0⟩ : ∃ p0 : Nat, way.getD (k : Int).toNat 0 % 6 = (p0 : Int) := ⟨(way.getD (k : Int).toNat 0 % 6).toNat, by omega⟩
          rw [hp0]
          exact hJ p0 (by omega)
        · rw [if_false' (dec_f (by omega))]
          exact hJ 0 (by omega)) (by
        rintro ⟨c, so, kk⟩ ⟨e1, e2, e3, e4, e5⟩
        dsimp only at e1 e2 e3 e4 e5
        subst e1
        unfold PredMust_L1
        dsimp only
        rw [if_false' (dec_f (by omega))]
        exact ⟨_, rfl, e2, e4, e5⟩)
      obtain ⟨y1, y2, y3⟩ := z2
      dsimp only at y1 y2 y3
      have hend : c = cntV h h.length := by
        refine ext_getD 0 (by rw [y1.len, cntV_len]) fun j hj => ?_
        rw [y1.len] at hj
        rw [Vc.cntV_at hj]
        exact sum6_eq (f := (c.getD · 0)) (g := NF h) (fun j hj => (y1.rng j hj).2) (by rw [y2]; exact (sum_cnt X.good h.length (Nat.le_refl _)).symm) j hj
      rw [bind_of z1, bind_of (rsizes_eq X.good)]
      dsimp only
      rw [(eqA6I_iff _ _).2 hend]
      cases hb : b with
      | false => rfl
      | true =>
        cases hso : so with
        | true => rfl
        | false => exact absurd (hend ▸ y3 hso) (b2.1 hb)
    · rw [bind_of (Must_large X t2 (by omega)), if_true' (by rfl)]
      rfl
  · rw [if_true' (by rw [bne_iff_ne]; exact hc)]
theorem nil_must : ∃ T, late [] = some T ∧ pred_Must [] T = some (false, 0) := by
  obtain ⟨v, st, X⟩ := cx_of (h := []) (by decide +kernel)
  obtain ⟨T, t1, t2, t3⟩ := truth_ok X lateL
  have hP : Pn [] = 1 := by decide +kernel
  obtain ⟨b, b1, b2⟩ := Must_ok X t2 (by rw [hP]; decide)
  refine ⟨T, by rw [late_eq]; exact t1, ?_⟩
  rw [b1]
  have hn : ¬ So T Z6 := fun hs => by
    have := hs 0 (by omega)
    rw [t3 0 (by omega) _ (by decide)] at this
    have h2 : bitI 2 0 = true := this
    rw [late_bits.1] at h2; cases h2
  have hb : b = false := Bool.eq_false_iff.2 fun hx => b2.1 hx (.zero hn)
  rw [hb]
theorem both_law (h : List EV) (of : List Int) : PredBoth h of = some true := by
  unfold PredBoth
  obtain ⟨T1, c1, c2⟩ := nil_must
  obtain ⟨T0, a1, a2⟩ := sent_must
  rw [bind_of c1, bind_of c2, if_false' (by rfl), show sent = some sentH from rfl, bind_of rfl, bind_of rfl, bind_of a1, bind_of a2, if_false' (by rfl), bind_of (chk_eq h)]
  by_cases hc : chkF h = 0
  · obtain ⟨v, st, X⟩ := cx_of hc
    obtain ⟨T, t1, t2, t3⟩ := truth_ok X of
    rw [if_false' (by rw [hc]; rfl), bind_of t1]
    obtain ⟨f, f1, f2⟩ : ∃ f, pred_First h T = some f ∧ ((∃ d, Fit h st T d) → f.2 = 0) := by
      rcases First_ok X t2 with ⟨c, e1, e2, e3⟩ | ⟨e1, e2⟩
      · exact ⟨_, e1, fun _ => rfl⟩
      · exact ⟨_, e1, fun hx => absurd hx e2⟩
    rw [bind_of f1]
    by_cases hP : Pn h ≤ 4096
    · obtain ⟨b, b1, b2⟩ := Must_ok X t2 hP
      obtain ⟨s, s1, _, s2⟩ := so_ok X t2 (zero_valid X)
      obtain ⟨e, e1, _, e2⟩ := so_ok X t2 (valid_pref X h.length (Nat.le_refl _))
      rw [bind_of b1, if_false' (by rfl), bind_of s1, rsizes_eq X.good, letO_def, ck_in (by intro _; rfl)]
      simp only [Option.getD_some]
      rw [e1, letO_def, ck_in (by intro _; rfl), letO_def]
      simp only [Option.getD_some]
      congr 1
      rw [Bool.and_eq_true]
      refine ⟨?_, ?_⟩
      · cases hb : b with
        | false => rfl
        | true => rw [f2 (must_first X (b2.1 hb))]; rfl
      · cases hb : b with
        | true => simp
        | false =>
          have hR : Reach h st T (cntV h h.length) := Classical.byContradiction fun hn => by rw [b2.2 hn] at hb; cases hb
          have h1 : s = false := Bool.eq_false_iff.2 fun hx => hR.start X (s2.1 hx)
          have h2 : e = false := Bool.eq_false_iff.2 fun hx => (hR.facts X).2.2 (e2.1 hx)
          rw [h1, h2]; rfl
    · rw [bind_of (Must_large X t2 (by omega)), if_true' (by rfl)]
      rfl
  · rw [if_true' (by rw [bne_iff_ne]; exact hc)]
end Go.Proofs.Ytdahfpfkjljojaa.Ct
