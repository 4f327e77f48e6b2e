/- Histories: Ahead tells what happened before what. -/
import Derived.Test.YtdahfpfkjljojaaHist5
open Go Go.Proofs.Ytdahfpfkjljojaa.Sy Go.Proofs.Ytdahfpfkjljojaa.Pu
set_option linter.unusedVariables false
set_option linter.unusedSimpArgs false
namespace Go.Proofs.Ytdahfpfkjljojaa.Vc

/-! ### Each message is sent once -/
theorem chkL_drop : ∀ (i : Nat) (l : List EV) (s : List Int) (g : List (List Bool)), chkL l s g = 0 → s.length = 30 → ∃ s' g', chkL (l.drop i) s' g' = 0 ∧ s'.length = 30
  | 0, l, s, g, h, hs => ⟨s, g, h, hs⟩
  | i + 1, [], s, g, h, hs => ⟨s, g, rfl, hs⟩
  | i + 1, e :: r, s, g, h, hs => by
    simp only [chkL] at h
    simp only [List.drop_succ_cons]
    split at h
    · exact absurd h (by decide)
    split at h
    · split at h
      · exact absurd h (by decide)
      · exact chkL_drop i r _ _ h hs
    split at h
    · split at h
      · exact absurd h (by decide)
      · exact chkL_drop i r _ _ h (by simpa using hs)
    split at h
    · split at h
      · exact absurd h (by decide)
      · exact chkL_drop i r _ _ h hs
    · exact absurd h (by decide)
theorem chkL_sent : ∀ (l : List EV) (s : List Int) (g : List (List Bool)) (m : Nat), chkL l s g = 0 → s.length = 30 → s.getD m 0 ≠ 0 → ∀ e ∈ l, ¬ (e.2.1 = 2 ∧ e.2.2.1.toNat = m)
  | [], _, _, _, _, _, _ => fun e he => by cases he
  | e :: r, s, g, m, h, hs, hm => by
    simp only [chkL] at h
    rcases bdich (badB e) with hb | hb
    · rw [if_true' hb] at h; exact absurd h (by decide)
    rw [if_false' hb] at h
    obtain ⟨b1, b2, b3, b4⟩ := bad_out hb
    have key : ∀ s' g', chkL r s' g' = 0 → s'.length = 30 → s'.getD m 0 ≠ 0 → ¬ (e.2.1 = 2 ∧ e.2.2.1.toNat = m) → ∀ e' ∈ e :: r, ¬ (e'.2.1 = 2 ∧ e'.2.2.1.toNat = m) := by
      intro s' g' h1 h2 h3 h4 e' he'
      rcases List.mem_cons.1 he' with rfl | he'
      · exact h4
      · exact chkL_sent r s' g' m h1 h2 h3 e' he'
    split at h
    · rename_i k1
      split at h
      · exact absurd h (by decide)
      · exact key _ _ h hs hm (fun hh => by rw [hh.1] at k1; exact absurd k1 (by decide))
    split at h
    · split at h
      · exact absurd h (by decide)
      · rename_i hz
        have hz : s.getD e.2.2.1.toNat 0 = 0 := by simpa using hz
        have hne : e.2.2.1.toNat ≠ m := fun e1 => hm (e1 ▸ hz)
        refine key _ _ h (by simpa using hs) ?_ (fun hh => hne hh.2)
        rw [getD_setD (by omega), if_neg (fun h => hne h.symm)]
        exact hm
    split at h
    · rename_i k3
      split at h
      · exact absurd h (by decide)
      · exact key _ _ h hs hm (fun hh => by rw [hh.1] at k3; exact absurd k3 (by decide))
    · exact absurd h (by decide)
theorem send_once {h : List EV} (hc : chkF h = 0) {i j : Nat} (hij : i < j) (hj : j < h.length) (hi2 : evk h i = 2) (hj2 : evk h j = 2) : evm h i ≠ evm h j := by
  intro hm
  have hl := (good_of hc).len
  simp only [chkF] at hc
  rw [if_false' (dec_f (by omega))] at hc
  obtain ⟨s, g, h1, h2⟩ := chkL_drop i h _ _ hc (by simp)
  rw [drop_at (by omega)] at h1
  generalize he : h.getD i dE = e at h1
  have ek : e.2.1 = 2 := by rw [← he]; exact hi2
  have em : e.2.2.1 = evm h j := by rw [← he]; exact hm
  simp only [chkL] at h1
  rcases bdich (badB e) with hb | hb
  · rw [if_true' hb] at h1; exact absurd h1 (by decide)
  rw [if_false' hb] at h1
  obtain ⟨b1, b2, b3, b4⟩ := bad_out hb
  rw [if_false' (by rw [ek]; decide), if_true' (by rw [ek]; decide)] at h1
  split at h1
  · exact absurd h1 (by decide)
  refine chkL_sent (h.drop (i + 1)) _ g e.2.2.1.toNat h1 (by simpa using h2) ?_ (h.getD j dE) ?_ ⟨hj2, by rw [em]⟩
  · rw [getD_setD (by omega), if_pos rfl, inc_eq (by omega) (by omega)]
    omega
  · rw [mem_getD (d := dE)]
    refine ⟨j - (i + 1), by simp; omega, ?_⟩
    simp only [List.getD_eq_getElem?_getD, List.getElem?_drop]
    rw [show i + 1 + (j - (i + 1)) = j by omega]

/-! ### Before -/
def dirB (h : List EV) (i k : Nat) : Bool := (evp h i == evp h k) || (((evk h k == (3 : Int)) && (evk h i == (2 : Int))) && (evm h i == evm h k))
inductive Hb (h : List EV) : Nat → Nat → Prop
  | step {i k : Nat} : i < k → dirB h i k = true → Hb h i k
  | trans {i m k : Nat} : Hb h i m → m < k → dirB h m k = true → Hb h i k
theorem Hb.lt {h : List EV} {i k : Nat} (hh : Hb h i k) : i < k := by
  induction hh with
  | step h1 _ => exact h1
  | trans _ h1 _ ih => omega
theorem hb_iff {h : List EV} {i k : Nat} : Hb h i k ↔ ∃ m, m < k ∧ dirB h m k = true ∧ (i = m ∨ Hb h i m) := by
  constructor
  · intro hh
    cases hh with
    | step h1 h2 => exact ⟨i, h1, h2, .inl rfl⟩
    | trans h1 h2 h3 => exact ⟨_, h2, h3, .inr h1⟩
  · rintro ⟨m, h1, h2, rfl | h3⟩
    · exact .step h1 h2
    · exact .trans h3 h1 h2
/-- A matrix that is another one but for a row. -/
structure RowOf (M M' : List (List Bool)) (n k : Nat) (f : Nat → Prop) : Prop where
  len : M'.length = n
  other : ∀ r, r ≠ k → M'.getD r [] = M.getD r []
  rl : (M'.getD k []).length = n
  row : ∀ x, x < n → ((M'.getD k []).getD x false = true ↔ f x)
theorem row_set {M M0 : List (List Bool)} {n k : Nat} {f : Nat → Prop} (h : RowOf M0 M n k f) (hk : k < n) {x : Nat} (hx : x < n) (b : Bool) : RowOf M0 (M.set k ((M.getD k []).set x b)) n k (fun y => if y = x then b = true else f y) := by
  have hl := h.len
  have hrl := h.rl
  refine ⟨by simpa using hl, fun r hr => ?_, ?_, fun y hy => ?_⟩
  · rw [getD_setD (by omega), if_neg hr]; exact h.other r hr
  · rw [getD_setD (by omega), if_pos rfl]; simpa using hrl
  · rw [getD_setD (by omega), if_pos rfl, getD_setD (by omega)]
    by_cases e : y = x
    · rw [if_pos e, if_pos e]
    · rw [if_neg e, if_neg e]; exact h.row y hy
theorem RowOf.congr {M M' : List (List Bool)} {n k : Nat} {f g : Nat → Prop} (h : RowOf M M' n k f) (hg : ∀ x, x < n → (f x ↔ g x)) : RowOf M M' n k g := ⟨h.len, h.other, h.rl, fun x hx => (h.row x hx).trans (hg x hx)⟩
theorem ahead_L4 {M0 M : List (List Bool)} {n k a : Nat} {f : Nat → Prop} (hn : n ≤ 60) (hk : k < n) (ha : a < k) (h : RowOf M0 M n k f) (hral : (M0.getD a []).length = n) :
    ∃ M', loopO (fun x : List (List Bool) × Int => stamp_Ahead_L4 (k : Int) (a : Int) x.1 x.2) (M, (0 : Int)) = some M' ∧ RowOf M0 M' n k (fun x => f x ∨ (x < a ∧ (M0.getD a []).getD x false = true)) := by
  refine loop_count (fun j x => x.2 = (j : Int) ∧ RowOf M0 x.1 n k (fun y => f y ∨ (y < j ∧ (M0.getD a []).getD y false = true))) a _ ⟨rfl, h.congr fun x _ => by simp⟩ ?_ ?_
  · rintro j ⟨Mj, jj⟩ hj ⟨e1, e2⟩
    dsimp only at e1 e2
    subst e1
    have hl := e2.len
    have hrl := e2.rl
    have hra : Mj.getD a [] = M0.getD a [] := e2.other a (by omega)
    have hck1 : 0 ≤ (k : Int) ∧ (k : Int) < ((Mj.length : Nat) : Int) := by omega
    have hck2 : 0 ≤ (j : Int) ∧ (j : Int) < (((Mj.getD k []).length : Nat) : Int) := by omega
    have hck3 : 0 ≤ (a : Int) ∧ (a : Int) < ((Mj.length : Nat) : Int) := by omega
    have hck4 : 0 ≤ (j : Int) ∧ (j : Int) < (((Mj.getD a []).length : Nat) : Int) := by rw [hra]; omega
    unfold stamp_Ahead_L4
    dsimp only
    rw [if_true' (dec_t (by omega)), ck_in hck1, ck_in hck1]
    simp only [Int.toNat_natCast]
    rw [ck_in hck2, ck_in (fun _ => hck3), ck_in (fun _ => hck4), ck_in hck2, letO_def, inc64 (by omega)]
    refine ⟨_, rfl, rfl, ?_⟩
    refine (row_set e2 hk (show j < n by omega) _).congr fun x hx => ?_
    rw [Bool.or_eq_true, e2.row j (by omega), hra]
    by_cases e : x = j
    · subst e
      rw [if_pos rfl]
      constructor
      · rintro ((h | ⟨h, _⟩) | h)
        · exact .inl h
        · omega
        · exact .inr ⟨by omega, h⟩
      · rintro (h | ⟨_, h⟩)
        · exact .inl (.inl h)
        · exact .inr h
    · rw [if_neg e]
      constructor
      · rintro (h | ⟨h1, h2⟩)
        · exact .inl h
        · exact .inr ⟨by omega, h2⟩
      · rintro (h | ⟨h1, h2⟩)
        · exact .inl h
        · exact .inr ⟨by omega, h2⟩
  · rintro ⟨Mj, jj⟩ ⟨e1, e2⟩
    dsimp only at e1 e2
    subst e1
    unfold stamp_Ahead_L4
    dsimp only
    rw [if_false' (dec_f (by omega))]
    exact ⟨_, rfl, e2⟩
theorem ahead_L2 {h : List EV} (hn : h.length ≤ 60) {M0 M : List (List Bool)} {k : Nat} (hk : k < h.length) (hM : RowOf M0 M h.length k (fun _ => False)) (hrows : ∀ r, r < k → (M0.getD r []).length = h.length ∧ ∀ x, x < h.length → ((M0.getD r []).getD x false = true ↔ Hb h x r)) :
    ∃ M', loopO (fun x : List (List Bool) × Int => stamp_Ahead_L2 (k : Int) (h.getD k dE) (h.take k) (k : Int) x.1 x.2) (M, (0 : Int)) = some M' ∧ RowOf M0 M' h.length k (fun x => Hb h x k) := by
  obtain ⟨M', h1, h2⟩ := loop_count (B := fun x : List (List Bool) × Int => stamp_Ahead_L2 (k : Int) (h.getD k dE) (h.take k) (k : Int) x.1 x.2) (fun a x => x.2 = (a : Int) ∧ RowOf M0 x.1 h.length k (fun y => ∃ m, m < a ∧ dirB h m k = true ∧ (y = m ∨ Hb h y m))) k (fun M' => RowOf M0 M' h.length k (fun y => ∃ m, m < k ∧ dirB h m k = true ∧ (y = m ∨ Hb h y m))) (x := (M, (0 : Int))) ⟨rfl, hM.congr fun x _ => by simp⟩ (by
      rintro a ⟨Ma, aa⟩ ha ⟨e1, e2⟩
      dsimp only at e1 e2
      subst e1
      have hl := e2.len
      have hrl := e2.rl
      have htk : (h.take k).length = k := by simp; omega
      unfold stamp_Ahead_L2
      dsimp only
      rw [if_true' (dec_t (by omega)), ck_in (by omega), letO_def, Int.toNat_natCast, getD_take ha]
      have hd : (((h.getD a dE).1 == (h.getD k dE).1) || ((((h.getD k dE).2.1 == (3 : Int)) && ((h.getD a dE).2.1 == (2 : Int))) && ((h.getD a dE).2.2.1 == (h.getD k dE).2.2.1))) = dirB h a k := rfl
      rw [hd]
      simp only [stamp_Ahead_J3, inc64 (show a < 1000000000000 by omega)]
      rcases bdich (dirB h a k) with hb | hb
      · rw [if_true' hb, ck_in (by omega)]
        simp only [Int.toNat_natCast]
        rw [ck_in (by omega), letO_def]
        have hs := row_set e2 hk (show a < h.length by omega) true
        obtain ⟨M2, g1, g2⟩ := ahead_L4 hn hk ha hs (hrows a ha).1
        rw [bind_of g1]
        refine ⟨_, rfl, rfl, g2.congr fun x hx => ?_⟩
        rw [(hrows a ha).2 x hx]
        constructor
        · rintro (h1 | ⟨h1, h2⟩)
          · by_cases e : x = a
            · exact ⟨a, by omega, hb, .inl e⟩
            · rw [if_neg e] at h1
              obtain ⟨m, m1, m2, m3⟩ := h1
              exact ⟨m, by omega, m2, m3⟩
          · exact ⟨a, by omega, hb, .inr h2⟩
        · rintro ⟨m, m1, m2, m3⟩
          by_cases em : m = a
          · subst em
            rcases m3 with e | m3
            · exact .inl (by rw [if_pos e])
            · exact .inr ⟨m3.lt, m3⟩
          · refine .inl ?_
            by_cases e : x = a
            · rw [if_pos e]
            · rw [if_neg e]; exact ⟨m, by omega, m2, m3⟩
      · rw [if_false' hb]
        refine ⟨_, rfl, rfl, e2.congr fun x hx => ?_⟩
        constructor
        · rintro ⟨m, m1, m2, m3⟩; exact ⟨m, by omega, m2, m3⟩
        · rintro ⟨m, m1, m2, m3⟩
          have : m ≠ a := fun e => by subst e; rw [hb] at m2; cases m2
          exact ⟨m, by omega, m2, m3⟩) (by
      rintro ⟨Ma, aa⟩ ⟨e1, e2⟩
      dsimp only at e1 e2
      subst e1
      unfold stamp_Ahead_L2
      dsimp only
      rw [if_false' (dec_f (by omega))]
      exact ⟨_, rfl, e2⟩)
  exact ⟨M', h1, h2.congr fun x _ => hb_iff.symm⟩
theorem ahead_L1 {h : List EV} (hn : h.length ≤ 60) : ∃ M, loopO (fun x : List (List Bool) × Int => stamp_Ahead_L1 h (h.length : Int) x.1 x.2) (List.replicate h.length ([] : List Bool), (0 : Int)) = some M ∧ M.length = h.length ∧ ∀ r, r < h.length → (M.getD r []).length = h.length ∧ ∀ x, x < h.length → ((M.getD r []).getD x false = true ↔ Hb h x r) := by
  refine loop_count (fun k x => x.2 = (k : Int) ∧ x.1.length = h.length ∧ ∀ r, r < k → (x.1.getD r []).length = h.length ∧ ∀ y, y < h.length → ((x.1.getD r []).getD y false = true ↔ Hb h y r)) h.length _ ⟨rfl, by simp, fun r hr => by omega⟩ ?_ ?_
  · rintro k ⟨M, kk⟩ hk ⟨e1, e2, e3⟩
    dsimp only at e1 e2 e3
    subst e1
    unfold stamp_Ahead_L1
    dsimp only
    rw [if_true' (dec_t (by omega)), ck_in (by omega), letO_def, ck_in (by omega), ck_in (le_maxL (by omega)), ck_in (by omega), letO_def, ck_in (by omega), letO_def, letO_def]
    simp only [Int.toNat_natCast, List.drop_zero]
    have htk : (h.take k).length = k := by simp; omega
    rw [htk, inc64 (by omega)]
    have hM : RowOf M (M.set k (List.replicate h.length false)) h.length k (fun _ => False) := by
      refine ⟨by simpa using e2, fun r hr => ?_, ?_, fun x hx => ?_⟩
      · rw [getD_setD (by omega), if_neg hr]
      · rw [getD_setD (by omega), if_pos rfl]; simp
      · rw [getD_setD (by omega), if_pos rfl, getD_rep]; simp
    obtain ⟨M', g1, g2⟩ := ahead_L2 hn hk hM e3
    rw [bind_of g1]
    refine ⟨_, rfl, rfl, g2.len, fun r hr => ?_⟩
    dsimp only
    by_cases e : r = k
    · subst e; exact ⟨g2.rl, g2.row⟩
    · rw [g2.other r e]; exact e3 r (by omega)
  · rintro ⟨M, kk⟩ ⟨e1, e2, e3⟩
    dsimp only at e1 e2 e3
    subst e1
    unfold stamp_Ahead_L1
    dsimp only
    rw [if_false' (dec_f (by omega))]
    exact ⟨_, rfl, e2, e3⟩
abbrev PV := Int × Int × Unit
/-- The pairs of some. -/
structure Prs (l : List PV) (b : Nat) (f : Nat → Nat → Prop) : Prop where
  len : l.length ≤ b
  mem : ∀ e, e ∈ l ↔ ∃ x y : Nat, e = ((x : Int), (y : Int), ()) ∧ f x y
theorem ahead_L6 {h : List EV} (hn : h.length ≤ 60) {M : List (List Bool)} (hM : M.length = h.length) (hr : ∀ r, r < h.length → (M.getD r []).length = h.length ∧ ∀ x, x < h.length → ((M.getD r []).getD x false = true ↔ Hb h x r)) {i : Nat} (hi : i < h.length) {l : List PV} (hl : Prs l (i * 60) (fun x y => x < i ∧ y < h.length ∧ Hb h x y)) :
    ∃ l', loopO (fun x : List PV × Int => stamp_Ahead_L6 M (i : Int) (h.length : Int) x.1 x.2) (l, (0 : Int)) = some l' ∧ Prs l' ((i + 1) * 60) (fun x y => x < i + 1 ∧ y < h.length ∧ Hb h x y) := by
  have hib : i * 60 ≤ 3600 := by omega
  obtain ⟨l', h1, h2⟩ := loop_count (B := fun x : List PV × Int => stamp_Ahead_L6 M (i : Int) (h.length : Int) x.1 x.2) (fun k x => x.2 = (k : Int) ∧ Prs x.1 (i * 60 + k) (fun x y => (x < i ∧ y < h.length ∧ Hb h x y) ∨ (x = i ∧ y < k ∧ Hb h x y))) h.length (fun l' => Prs l' (i * 60 + h.length) (fun x y => (x < i ∧ y < h.length ∧ Hb h x y) ∨ (x = i ∧ y < h.length ∧ Hb h x y))) (x := (l, (0 : Int))) ⟨rfl, hl.len, fun e => by rw [hl.mem]; simp⟩ (by
      rintro k ⟨lk, kk⟩ hk ⟨e1, e2⟩
      dsimp only at e1 e2
      subst e1
      have hlen := e2.len
      have hrk := hr k hk
      unfold stamp_Ahead_L6
      dsimp only
      rw [if_true' (dec_t (by omega)), ck_in (by omega)]
      simp only [Int.toNat_natCast]
      rw [ck_in (by rw [hrk.1]; omega)]
      simp only [stamp_Ahead_J7, inc64 (show k < 1000000000000 by omega)]
      rcases bdich ((M.getD k []).getD i false) with hb | hb
      · rw [if_true' hb, ck_in (le_maxL (by simp; omega))]
        have hh := (hrk.2 i hi).1 hb
        refine ⟨_, rfl, rfl, by simp; omega, fun e => ?_⟩
        dsimp only
        rw [List.mem_append, e2.mem, List.mem_singleton]
        constructor
        · rintro (⟨x, y, h1, h2⟩ | h1)
          · exact ⟨x, y, h1, h2.imp id fun h => ⟨h.1, by omega, h.2.2⟩⟩
          · exact ⟨i, k, h1, .inr ⟨rfl, by omega, hh⟩⟩
        · rintro ⟨x, y, h1, h2 | ⟨h2, h3, h4⟩⟩
          · exact .inl ⟨x, y, h1, .inl h2⟩
          · by_cases e : y = k
            · subst e h2; exact .inr h1
            · exact .inl ⟨x, y, h1, .inr ⟨h2, by omega, h4⟩⟩
      · rw [if_false' hb]
        have hh : ¬ Hb h i k := fun h => by rw [(hrk.2 i hi).2 h] at hb; cases hb
        refine ⟨_, rfl, rfl, by dsimp only; omega, fun e => ?_⟩
        dsimp only
        rw [e2.mem]
        constructor
        · rintro ⟨x, y, h1, h2⟩
          exact ⟨x, y, h1, h2.imp id fun h => ⟨h.1, by omega, h.2.2⟩⟩
        · rintro ⟨x, y, h1, h2 | ⟨h2, h3, h4⟩⟩
          · exact ⟨x, y, h1, .inl h2⟩
          · have : y ≠ k := fun e => by subst e h2; exact hh h4
            exact ⟨x, y, h1, .inr ⟨h2, by omega, h4⟩⟩) (by
      rintro ⟨lk, kk⟩ ⟨e1, e2⟩
      dsimp only at e1 e2
      subst e1
      unfold stamp_Ahead_L6
      dsimp only
      rw [if_false' (dec_f (by omega))]
      exact ⟨_, rfl, e2⟩)
  refine ⟨l', h1, by have := h2.len; omega, fun e => ?_⟩
  rw [h2.mem]
  constructor
  · rintro ⟨x, y, g1, g2 | g2⟩
    · exact ⟨x, y, g1, by omega, g2.2⟩
    · exact ⟨x, y, g1, by omega, g2.2⟩
  · rintro ⟨x, y, g1, g2, g3⟩
    by_cases e : x = i
    · exact ⟨x, y, g1, .inr ⟨e, g3⟩⟩
    · exact ⟨x, y, g1, .inl ⟨by omega, g3⟩⟩
theorem ahead_ok {h : List EV} (hc : chkF h = 0) : ∃ a, stamp_Ahead h = some (a, 0) ∧ Prs a 3600 (fun x y => y < h.length ∧ Hb h x y) := by
  have hn := (good_of hc).len
  obtain ⟨M, g1, g2, g3⟩ := ahead_L1 hn
  obtain ⟨l, k1, k2⟩ := loop_count (B := fun x : List PV × Int => stamp_Ahead_L5 h M (h.length : Int) x.1 x.2) (fun i x => x.2 = (i : Int) ∧ Prs x.1 (i * 60) (fun x y => x < i ∧ y < h.length ∧ Hb h x y)) h.length (fun l => Prs l (h.length * 60) (fun x y => x < h.length ∧ y < h.length ∧ Hb h x y)) (x := (([] : List PV), (0 : Int))) ⟨rfl, by simp, fun e => by simp⟩ (by
      rintro i ⟨li, ii⟩ hi ⟨e1, e2⟩
      dsimp only at e1 e2
      subst e1
      unfold stamp_Ahead_L5
      dsimp only
      rw [if_true' (dec_t (by omega)), letO_def, inc64 (by omega)]
      obtain ⟨l', f1, f2⟩ := ahead_L6 hn g2 g3 hi e2
      rw [bind_of f1]
      exact ⟨_, rfl, rfl, f2⟩) (by
      rintro ⟨li, ii⟩ ⟨e1, e2⟩
      dsimp only at e1 e2
      subst e1
      unfold stamp_Ahead_L5
      dsimp only
      rw [if_false' (dec_f (by omega))]
      exact ⟨_, rfl, e2⟩)
  refine ⟨l, ?_, by have := k2.len; omega, fun e => ?_⟩
  · unfold stamp_Ahead
    rw [bind_of (check_eq h), hc, if_false' (by decide), ck_in (by omega), ck_in (le_maxL (by omega)), letO_def, letO_def, Int.toNat_natCast, bind_of g1, letO_def, bind_of k1]
  · rw [k2.mem]
    constructor
    · rintro ⟨x, y, a1, a2, a3, a4⟩; exact ⟨x, y, a1, a3, a4⟩
    · rintro ⟨x, y, a1, a3, a4⟩; exact ⟨x, y, a1, by have := a4.lt; omega, a3, a4⟩
theorem ahead_no {h : List EV} (hc : chkF h ≠ 0) : stamp_Ahead h = some ([], chkF h) := by
  unfold stamp_Ahead
  rw [bind_of (check_eq h), if_true' (by simpa using hc)]
end Go.Proofs.Ytdahfpfkjljojaa.Vc
