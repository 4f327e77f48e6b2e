/- Flushing: what is told to those who stay was told to one of them. -/
import Derived.Test.YthjbflbcdohooaaPure2
import Derived.Test.YthjbflbcdohooaaFlDefs
open Go Go.Proofs.Ythjbflbcdohooaa.Sy Go.Proofs.Ythjbflbcdohooaa.Pu
set_option linter.unusedVariables false
set_option linter.unusedSimpArgs false
namespace Go.Proofs.Ythjbflbcdohooaa.Fl
abbrev FV := (Int × Int × Unit) × Int × List (List Int) × Unit
theorem cont_eq (l : List Int) (x : Int) (hl : l.length ≤ 10000000000) : slices_Contains_Lint_int l x = some (decide (x ∈ l)) := by
  have h := find_loop (B := fun y : Int => slices_Index_Lint_int_L1 l x (l.length : Int) y) (l := l) (d := (0 : Int)) (P := fun t => x == t) (g := fun k => Sum.inr (k : Int)) (e := Sum.inl ()) (fun k hk => by
    unfold slices_Index_Lint_int_L1
    rw [if_true' (dec_t (by omega)), ck_in (by omega), inc64 (by omega), Int.toNat_natCast]) (by
    unfold slices_Index_Lint_int_L1
    rw [if_false' (dec_f (by omega))])
  unfold slices_Contains_Lint_int slices_Index_Lint_int
  rw [letO_def]
  by_cases hm : x ∈ l
  · obtain ⟨j, hj, _⟩ := find_some (P := fun t => x == t) hm (by simp)
    rw [hj] at h
    rw [bindE_inr h, bind_of rfl, decide_eq_true hm, dec_t (by omega)]
  · rw [find_none (P := fun t => x == t) (fun y hy => by rw [beq_eq_false_iff_ne]; exact fun e => hm (e ▸ hy))] at h
    rw [bindE_inl h, bind_of rfl, decide_eq_false hm, dec_f (by omega)]
theorem max8 : IntKind.max .u8 = 255 := by decide
def bit8 (x q : Int) : Int := arR .and .u8 (arR .shr .u8 x q) (1 : Int)
theorem bit8_N {n q : Nat} (hn : n ≤ 255) (hq : q ≤ 8) : bit8 (n : Int) (q : Int) = if n.testBit q = true then 1 else 0 := by
  have hd : n / 2 ^ q ≤ n := Nat.div_le_self _ _
  unfold bit8
  rw [shr_N (k := .u8) hq, show arR .and .u8 ((n / 2 ^ q : Nat) : Int) (1 : Int) = ((n / 2 ^ q &&& 1 : Nat) : Int) from and_N (k := .u8) (b := 1) (by rw [max8]; omega) (by decide), Nat.and_one_is_mod, Nat.testBit_eq_decide_div_mod_eq]
  by_cases e : n / 2 ^ q % 2 = 1
  · rw [decide_eq_true e, e]; rfl
  · rw [decide_eq_false e, show n / 2 ^ q % 2 = 0 by omega]; rfl
theorem bit8_andNot {a b : Int} (ha : 0 ≤ a ∧ a ≤ 255) (hb : 0 ≤ b ∧ b ≤ 255) {q : Nat} (hq : q < 6) (h1 : bit8 a (q : Int) ≠ 0) (h2 : bit8 b (q : Int) = 0) : bit8 (arR .andNot .u8 a b) (q : Int) = 1 := by
  obtain ⟨n, rfl⟩ : ∃ n : Nat, a = (n : Int) := ⟨a.toNat, by omega⟩
  obtain ⟨m, rfl⟩ : ∃ m : Nat, b = (m : Int) := ⟨b.toNat, by omega⟩
  rw [bit8_N (by omega) (by omega)] at h1 h2
  have h1' : n.testBit q = true := by
    cases hx : n.testBit q with
    | true => rfl
    | false => rw [hx] at h1; exact absurd rfl h1
  have h2' : m.testBit q = false := by
    cases hx : m.testBit q with
    | false => rfl
    | true => rw [hx] at h2; exact absurd h2 (by decide)
  have hle : n &&& (2 ^ IntKind.bits .u8 - 1 - m) ≤ n := Nat.and_le_left
  rw [andNot_N (k := .u8) (by rw [max8]; omega) (by rw [max8]; omega), bit8_N (by omega) (by omega), if_pos]
  rw [Nat.testBit_and, h1', show 2 ^ IntKind.bits .u8 - 1 - m = 2 ^ 8 - (m + 1) by (show 256 - 1 - m = _; omega), Nat.testBit_two_pow_sub_succ (by omega), h2']
  simp
  omega
structure Fok (f : FV) : Prop where
  num : 0 ≤ f.1.1 ∧ f.1.1 ≤ 16777215
  told : ∀ p, p < 6 → (∀ x ∈ f.2.2.1.getD p [], 0 ≤ x ∧ x < 30) ∧ (f.2.2.1.getD p [] ≠ [] → bit8 f.1.2.1 (p : Int) ≠ 0)
theorem view_chk (v : Int × Int × Unit) : ∃ c, view_Check v = some c ∧ (c = 0 → 0 ≤ v.1 ∧ v.1 ≤ 16777215) := by
  unfold view_Check
  rw [ck_in (by intro _; decide)]
  by_cases h : 0 ≤ v.1 ∧ v.1 ≤ 16777215
  · split
    · exact ⟨1, rfl, fun h => by cases h⟩
    · exact ⟨0, rfl, fun _ => h⟩
  · rw [if_true' (by
      rw [Bool.or_eq_true, Bool.or_eq_true, Bool.or_eq_true]
      by_cases h1 : v.1 < 0
      · exact .inl (.inl (.inl (dec_t h1)))
      · exact .inl (.inl (.inr (dec_t (by omega)))))]
    exact ⟨1, rfl, fun h => by cases h⟩
theorem flush_chk {f : FV} (hT : ∀ l ∈ f.2.2.1, l.length ≤ 4294967296) (hlen : f.2.2.1.length = 6) : ∃ c, flush_Check f = some c ∧ (c = 0 → Fok f) := by
  obtain ⟨c0, v1, v2⟩ := view_chk f.1
  unfold flush_Check
  rw [bind_of v1]
  by_cases h0 : c0 = 0
  · have hn := v2 h0
    rw [if_false' (by rw [h0]; rfl)]
    split
    · exact ⟨4, rfl, fun h => by cases h⟩
    · obtain ⟨z, z1, z2⟩ := loop_countE (B := fun x : Int => flush_Check_L1 f x) (fun k x => x = (k : Int) ∧ ∀ p, p < k → (∀ x ∈ f.2.2.1.getD p [], 0 ≤ x ∧ x < 30) ∧ (f.2.2.1.getD p [] ≠ [] → bit8 f.1.2.1 (p : Int) ≠ 0)) 6 (fun z => (z = .inl () ∧ Fok f) ∨ ∃ c : Int, z = .inr c ∧ c ≠ 0) (x := (0 : Int)) ⟨rfl, fun p hp => by omega⟩ (by
        rintro k x hk ⟨rfl, e⟩
        have hl := hT _ (mem_getD' (l := f.2.2.1) (k := k) (d := []) (by omega))
        unfold flush_Check_L1
        rw [if_true' (dec_t (by omega)), ck_in (by omega), letO_def, Int.toNat_natCast]
        generalize hg : f.2.2.1.getD k [] = l at *
        by_cases h1 : l.length ≤ 30
        · rw [if_false' (dec_f (by omega)), ck_in (by intro _; omega), show arR .and .u8 (arR .shr .u8 f.1.2.1 (k : Int)) (1 : Int) = bit8 f.1.2.1 (k : Int) from rfl]
          by_cases h2 : 0 < l.length ∧ bit8 f.1.2.1 (k : Int) = 0
          · rw [if_true' (by rw [Bool.and_eq_true]; exact ⟨dec_t (by omega), by rw [beq_iff_eq]; exact h2.2⟩)]
            exact .inr ⟨_, rfl, .inr ⟨4, rfl, by decide⟩⟩
          · rw [if_false' (by
              rw [Bool.and_eq_false_iff]
              by_cases h3 : 0 < l.length
              · right; rw [beq_eq_false_iff_ne]; exact fun e => h2 ⟨h3, e⟩
              · left; exact dec_f (by omega)), letO_def]
            obtain ⟨y, y1, y2⟩ := loop_countE (B := fun x : Int => flush_Check_L2 l (l.length : Int) x) (fun k x => x = (k : Int) ∧ ∀ i, i < k → 0 ≤ l.getD i 0 ∧ l.getD i 0 < 30) l.length (fun z => (z = .inl () ∧ ∀ x ∈ l, 0 ≤ x ∧ x < 30) ∨ z = .inr (.inr (.inr 4))) (x := (0 : Int)) ⟨rfl, fun i hi => by omega⟩ (by
              rintro j x hj ⟨rfl, e2⟩
              unfold flush_Check_L2
              rw [if_true' (dec_t (by omega)), ck_in (by omega), letO_def, Int.toNat_natCast, ck_in (by intro _; omega), cont_eq _ _ (by simp; omega), letO_def, ck_in (by intro _; rfl)]
              split
              · exact .inr ⟨_, rfl, .inr rfl⟩
              · rename_i hx
                rw [Bool.or_eq_true, Bool.or_eq_true, not_or, not_or, decide_eq_true_eq, decide_eq_true_eq] at hx
                rw [inc64 (by omega)]
                refine .inl ⟨_, rfl, rfl, fun i hi => ?_⟩
                by_cases ei : i = j
                · rw [ei]; omega
                · exact e2 i (by omega)) (by
              rintro x ⟨rfl, e2⟩
              unfold flush_Check_L2
              rw [if_false' (dec_f (by omega))]
              refine ⟨_, rfl, .inl ⟨rfl, fun x hx => ?_⟩⟩
              obtain ⟨i, hi, rfl⟩ := (mem_getD (d := 0)).1 hx
              exact e2 i hi)
            rcases y2 with ⟨rfl, y2⟩ | rfl
            · rw [bindE_inl y1, inc64 (by omega)]
              refine .inl ⟨_, rfl, rfl, fun p hp => ?_⟩
              by_cases ep : p = k
              · subst ep
                rw [hg]
                exact ⟨y2, fun hne hb => h2 ⟨by
                  cases l with
                  | nil => exact absurd rfl hne
                  | cons _ _ => simp, hb⟩⟩
              · exact e p (by omega)
            · rw [bindE_inr y1]
              exact .inr ⟨_, rfl, .inr ⟨4, rfl, by decide⟩⟩
        · rw [if_true' (dec_t (by omega))]
          exact .inr ⟨_, rfl, .inr ⟨2, rfl, by decide⟩⟩) (by
        rintro x ⟨rfl, e⟩
        unfold flush_Check_L1
        rw [if_false' (dec_f (by omega))]
        exact ⟨_, rfl, .inl ⟨rfl, hn, e⟩⟩)
      rcases z2 with ⟨rfl, z2⟩ | ⟨c, rfl, hc⟩
      · rw [bindE_inl z1]
        exact ⟨0, rfl, fun _ => z2⟩
      · rw [bindE_inr z1]
        exact ⟨c, rfl, fun h => absurd h hc⟩
  · rw [if_true' (by rw [bne_iff_ne]; exact h0)]
    exact ⟨c0, rfl, fun h => absurd h h0⟩
theorem ones_tot {x : Int} (h : 0 ≤ x ∧ x ≤ 255) : ∃ y, math_bits_OnesCount8 x = some y := by
  unfold math_bits_OnesCount8
  rw [ck_in]
  · exact ⟨_, rfl⟩
  · exact ⟨h.1, Int.lt_of_le_of_lt h.2 (by decide +kernel)⟩
theorem next_ok {v : Int × Int × Unit} {g c : Int} (hv : 0 ≤ v.2.1 ∧ v.2.1 ≤ 255) (hg : 0 ≤ g ∧ g ≤ 255) : ∃ r, view_Next v g c = some r ∧ (r.2 = 0 → r.1.1 = arR .add .i64 v.1 1) := by
  unfold view_Next
  obtain ⟨c0, v1, v2⟩ := view_chk v
  rw [bind_of v1]
  split
  · rename_i h
    exact ⟨_, rfl, fun e => by rw [bne_iff_ne] at h; exact absurd e h⟩
  rw [ck_in (by decide)]
  split
  · exact ⟨_, rfl, fun e => by cases e⟩
  split
  · exact ⟨_, rfl, fun e => by cases e⟩
  rw [letO_def]
  have hs : 0 ≤ arR .andNot .u8 v.2.1 g ∧ arR .andNot .u8 v.2.1 g ≤ 255 := by
    obtain ⟨n, hn⟩ : ∃ n : Nat, v.2.1 = (n : Int) := ⟨v.2.1.toNat, by omega⟩
    obtain ⟨m, rfl⟩ : ∃ m : Nat, g = (m : Int) := ⟨g.toNat, by omega⟩
    rw [hn, andNot_N (k := .u8) (by rw [max8]; omega) (by rw [max8]; omega)]
    have : n &&& (2 ^ IntKind.bits .u8 - 1 - m) ≤ n := Nat.and_le_left
    omega
  obtain ⟨a, ha⟩ := ones_tot hs
  obtain ⟨b, hb⟩ := ones_tot hv
  rw [bind_of ha, bind_of hb]
  split
  · exact ⟨_, rfl, fun e => by cases e⟩
  · exact ⟨_, rfl, fun _ => rfl⟩
/-- What is told. -/
theorem change_ok {f : FV} {c : Int} (hT : ∀ l ∈ f.2.2.1, l.length ≤ 4294967296) (hlen : f.2.2.1.length = 6) (hm : 0 ≤ f.1.2.1 ∧ f.1.2.1 ≤ 255) (hgo : 0 ≤ f.2.1 ∧ f.2.1 ≤ 255) :
    ∃ r, flush_Change f c = some r ∧ (r.2.2 = 0 → Fok f ∧ r.1.2.1 = 0 ∧ r.1.1.1 = arR .add .i64 f.1.1 1 ∧ r.2.1.length = 6 ∧ ∀ p, p < 6 → (r.2.1.getD p []).length ≤ 30 ∧ ∀ m ∈ r.2.1.getD p [], ∃ q, q < 6 ∧ m ∈ f.2.2.1.getD q [] ∧ bit8 f.2.1 (q : Int) = 0) := by
  unfold flush_Change
  obtain ⟨c0, c1, c2⟩ := flush_chk hT hlen
  rw [letO_def, letO_def, bind_of c1]
  split
  · rename_i h
    exact ⟨_, rfl, fun e => by rw [bne_iff_ne] at h; exact absurd e h⟩
  rename_i h0
  have hF := c2 (by simpa using h0)
  obtain ⟨r, r1, r2⟩ := next_ok (c := c) hm hgo
  rw [bind_of r1]
  split
  · rename_i h
    exact ⟨_, rfl, fun e => by rw [bne_iff_ne] at h; exact absurd e h⟩
  rename_i h0
  have hr := r2 (by simpa using h0)
  rw [letO_def]
  -- who was told what
  obtain ⟨al, a1, a2, a3⟩ := loop_count (B := fun x : List Bool × Int => flush_Change_L1 f x.1 x.2) (fun k x => x.2 = (k : Int) ∧ x.1.length = 30 ∧ ∀ m : Nat, m < 30 → x.1.getD m false = true → ∃ q, q < 6 ∧ (m : Int) ∈ f.2.2.1.getD q [] ∧ bit8 f.2.1 (q : Int) = 0) 6 (fun al => al.length = 30 ∧ ∀ m : Nat, m < 30 → al.getD m false = true → ∃ q, q < 6 ∧ (m : Int) ∈ f.2.2.1.getD q [] ∧ bit8 f.2.1 (q : Int) = 0) (x := (List.replicate 30 false, (0 : Int))) ⟨rfl, by simp, fun m _ h => by rw [getD_rep] at h; cases h⟩ (by
    rintro k ⟨al, kk⟩ hk ⟨e1, e2, e3⟩
    dsimp only at e1 e2 e3
    subst e1
    have hl := hT _ (mem_getD' (l := f.2.2.1) (k := k) (d := []) (by omega))
    have hr := (hF.told k hk).1
    unfold flush_Change_L1
    dsimp only
    rw [if_true' (dec_t (by omega)), ck_in (by omega), letO_def, letO_def, Int.toNat_natCast]
    obtain ⟨b, b1, b2, b3⟩ := loop_count (B := fun x : List Bool × Int => flush_Change_L2 f (k : Int) (f.2.2.1.getD k []) ((f.2.2.1.getD k []).length : Int) x.1 x.2) (fun i x => x.2 = (i : Int) ∧ x.1.length = 30 ∧ ∀ m : Nat, m < 30 → x.1.getD m false = true → ∃ q, q < 6 ∧ (m : Int) ∈ f.2.2.1.getD q [] ∧ bit8 f.2.1 (q : Int) = 0) (f.2.2.1.getD k []).length (fun al => al.length = 30 ∧ ∀ m : Nat, m < 30 → al.getD m false = true → ∃ q, q < 6 ∧ (m : Int) ∈ f.2.2.1.getD q [] ∧ bit8 f.2.1 (q : Int) = 0) (x := (al, (0 : Int))) ⟨rfl, e2, e3⟩ (by
      rintro i ⟨b, ii⟩ hi ⟨f1, f2, f3⟩
      dsimp only at f1 f2 f3
      subst f1
      have hmem := mem_getD' (l := f.2.2.1.getD k []) (d := 0) hi
      have hx := hr _ hmem
      unfold flush_Change_L2
      dsimp only
      rw [if_true' (dec_t (by omega)), ck_in (by omega), letO_def, Int.toNat_natCast, ck_in (by omega), ck_in (by intro _; omega), ck_in (by omega), letO_def, inc64 (by omega)]
      refine ⟨_, rfl, rfl, by simpa using f2, fun m hm30 h => ?_⟩
      dsimp only at h
      rw [getD_setD (by omega)] at h
      by_cases e : m = ((f.2.2.1.getD k []).getD i 0).toNat
      · rw [if_pos e, Bool.or_eq_true] at h
        rcases h with h | h
        · exact f3 m hm30 (by rw [e]; exact h)
        · refine ⟨k, hk, ?_, by rw [beq_iff_eq] at h; exact h⟩
          rw [show (m : Int) = (f.2.2.1.getD k []).getD i 0 by omega]
          exact hmem
      · rw [if_neg e] at h
        exact f3 m hm30 h) (by
      rintro ⟨b, ii⟩ ⟨f1, f2, f3⟩
      dsimp only at f1 f2 f3
      subst f1
      unfold flush_Change_L2
      dsimp only
      rw [if_false' (dec_f (by omega))]
      exact ⟨_, rfl, f2, f3⟩)
    rw [bind_of b1, inc64 (by omega)]
    exact ⟨_, rfl, rfl, b2, b3⟩) (by
    rintro ⟨al, kk⟩ ⟨e1, e2, e3⟩
    dsimp only at e1 e2 e3
    subst e1
    unfold flush_Change_L1
    dsimp only
    rw [if_false' (dec_f (by omega))]
    exact ⟨_, rfl, e2, e3⟩)
  rw [bind_of a1]
  obtain ⟨td, t1, t2, t3⟩ := loop_count (B := fun x : List (List Int) × Int => flush_Change_L3 f al x.1 x.2) (fun k x => x.2 = (k : Int) ∧ x.1.length = 6 ∧ (∀ p, p < 6 → (x.1.getD p []).length ≤ 30 ∧ ∀ m ∈ x.1.getD p [], 0 ≤ m ∧ m < 30 ∧ al.getD m.toNat false = true) ∧ ∀ p, k ≤ p → x.1.getD p [] = []) 6 (fun td => td.length = 6 ∧ ∀ p, p < 6 → (td.getD p []).length ≤ 30 ∧ ∀ m ∈ td.getD p [], 0 ≤ m ∧ m < 30 ∧ al.getD m.toNat false = true) (x := (List.replicate 6 ([] : List Int), (0 : Int))) ⟨rfl, by simp, fun p hp => by rw [getD_rep]; exact ⟨by simp, fun m hm => by cases hm⟩, fun p _ => by rw [getD_rep]⟩ (by
    rintro k ⟨td, kk⟩ hk ⟨e1, e2, e3, e4⟩
    dsimp only at e1 e2 e3 e4
    subst e1
    unfold flush_Change_L3
    dsimp only
    rw [if_true' (dec_t (by omega)), ck_in (by omega), inc64 (by omega)]
    split
    · exact ⟨_, rfl, rfl, e2, e3, fun p hp => e4 p (by omega)⟩
    · have hl := hT _ (mem_getD' (l := f.2.2.1) (k := k) (d := []) (by omega))
      obtain ⟨b, b1, b2, b3, b4⟩ := loop_count (B := fun x : List (List Int) × Int => flush_Change_L4 f al (k : Int) x.1 x.2) (fun i x => x.2 = (i : Int) ∧ x.1.length = 6 ∧ (∀ p, p ≠ k → x.1.getD p [] = td.getD p []) ∧ (x.1.getD k []).length ≤ i ∧ ∀ m ∈ x.1.getD k [], 0 ≤ m ∧ m < 30 ∧ al.getD m.toNat false = true) 30 (fun b => b.length = 6 ∧ (∀ p, p ≠ k → b.getD p [] = td.getD p []) ∧ (b.getD k []).length ≤ 30 ∧ ∀ m ∈ b.getD k [], 0 ≤ m ∧ m < 30 ∧ al.getD m.toNat false = true) (x := (td, (0 : Int))) ⟨rfl, e2, fun p _ => rfl, by dsimp only; rw [e4 k (Nat.le_refl _)]; simp, fun m hm => by dsimp only at hm; rw [e4 k (Nat.le_refl _)] at hm; cases hm⟩ (by
        rintro i ⟨b, ii⟩ hi ⟨f1, f2, f3, f4, f5⟩
        dsimp only at f1 f2 f3 f4 f5
        subst f1
        unfold flush_Change_L4 flush_Change_J5
        dsimp only
        rw [if_true' (dec_t (by omega)), ck_in (by omega), letO_def, ck_in (by intro _; omega), Int.toNat_natCast, Int.toNat_natCast, cont_eq _ _ (by omega), letO_def, ck_in (by intro _; rfl), inc64 (by omega)]
        split
        · rename_i hx
          rw [Bool.and_eq_true] at hx
          rw [ck_in (by omega), ck_in (le_maxL (by simp only [List.length_cons, List.length_nil]; omega)), ck_in (by omega)]
          refine ⟨_, rfl, rfl, by simpa using f2, fun p hp => ?_, ?_, fun m hm => ?_⟩
          · dsimp only
            rw [getD_setD (by omega), if_neg hp]; exact f3 p hp
          · dsimp only
            rw [getD_setD (by omega), if_pos rfl, List.length_append]
            simp only [List.length_cons, List.length_nil]
            omega
          · dsimp only at hm
            rw [getD_setD (by omega), if_pos rfl] at hm
            rcases List.mem_append.1 hm with hm | hm
            · exact f5 m hm
            · rw [List.mem_singleton.1 hm]
              exact ⟨by omega, by omega, by rw [Int.toNat_natCast]; exact hx.1⟩
        · exact ⟨_, rfl, rfl, f2, f3, by dsimp only; omega, f5⟩) (by
        rintro ⟨b, ii⟩ ⟨f1, f2, f3, f4, f5⟩
        dsimp only at f1 f2 f3 f4 f5
        subst f1
        unfold flush_Change_L4
        dsimp only
        rw [if_false' (dec_f (by omega))]
        exact ⟨_, rfl, f2, f3, f4, f5⟩)
      rw [bind_of b1]
      refine ⟨_, rfl, rfl, b2, fun p hp => ?_, fun p hp => ?_⟩
      · dsimp only
        by_cases e : p = k
        · rw [e]; exact b4
        · rw [b3 p e]; exact e3 p hp
      · dsimp only
        rw [b3 p (by omega)]; exact e4 p (by omega)) (by
    rintro ⟨td, kk⟩ ⟨e1, e2, e3, e4⟩
    dsimp only at e1 e2 e3
    subst e1
    unfold flush_Change_L3
    dsimp only
    rw [if_false' (dec_f (by omega))]
    exact ⟨_, rfl, e2, e3⟩)
  rw [bind_of t1]
  refine ⟨_, rfl, fun _ => ⟨hF, rfl, hr, t2, fun p hp => ⟨(t3 p hp).1, fun m hm => ?_⟩⟩⟩
  obtain ⟨g1, g2, g3⟩ := (t3 p hp).2 m hm
  obtain ⟨q, q1, q2, q3⟩ := a3 m.toNat (by omega) g3
  rw [show ((m.toNat : Nat) : Int) = m by omega] at q2
  exact ⟨q, q1, q2, q3⟩
theorem new3 : ∃ r, flush_New (3 : Int) = some r ∧ r.2 = 0 ∧ r.1.1.2.1 = 3 := by
  have h : view_Check ((0 : Int), (3 : Int), ()) = some 0 := by
    unfold view_Check
    rw [ck_in (by decide), if_false' (by decide)]
  unfold flush_New
  rw [letO_def, letO_def, bind_of h, if_false' (by rfl)]
  exact ⟨_, rfl, rfl, rfl⟩
theorem true_law (f : FV) (c : Int) (hm : 0 ≤ f.1.2.1 ∧ f.1.2.1 ≤ 255) (hgo : 0 ≤ f.2.1 ∧ f.2.1 ≤ 255) (hlen : f.2.2.1.length = 6) (hT : ∀ l ∈ f.2.2.1, l.length ≤ 4294967296) : FlushTrue f c = some true := by
  unfold FlushTrue
  obtain ⟨n, n1, n2, n3⟩ := new3
  rw [bind_of n1, if_false' (by rw [n2, n3]; rfl)]
  obtain ⟨r, r1, r2⟩ := change_ok (c := c) hT hlen hm hgo
  rw [bind_of r1]
  by_cases h0 : r.2.2 = 0
  · obtain ⟨hF, g1, g2, g3, g4⟩ := r2 h0
    rw [if_false' (by rw [h0]; rfl)]
    have hloop : loopO (fun x : Int => FlushTrue_L1 f r x) (0 : Int) = some (.inl ()) := count_loop 6 (fun p hp => by
      have hlp := (g4 p hp).1
      unfold FlushTrue_L1
      rw [if_true' (dec_t (by omega)), ck_in (by omega), letO_def, Int.toNat_natCast]
      have hin : loopO (fun x : Int => FlushTrue_L2 f r (p : Int) ((r.2.1.getD p []).length : Int) x) (0 : Int) = some (.inl ()) := all_loop (l := r.2.1.getD p []) (d := 0) (fun k hk => by
        obtain ⟨q, q1, q2, q3⟩ := (g4 p hp).2 _ (mem_getD' (d := 0) hk)
        have hne : bit8 f.1.2.1 (q : Int) ≠ 0 := (hF.told q q1).2 (fun e => by rw [e] at q2; cases q2)
        unfold FlushTrue_L2
        rw [Int.toNat_natCast, if_true' (dec_t (by omega)), ck_in (by omega), letO_def, Int.toNat_natCast]
        obtain ⟨z, z1, z2⟩ := loop_count (B := fun x : Bool × Int => FlushTrue_L3 f ((r.2.1.getD p []).getD k 0) x.1 x.2) (fun i x => x.2 = (i : Int) ∧ (q < i → x.1 = true)) 6 (fun z => z = true) (x := (false, (0 : Int))) ⟨rfl, fun h => by omega⟩ (by
          rintro i ⟨b, ii⟩ hi ⟨e1, e2⟩
          dsimp only at e1 e2
          subst e1
          have hl := hT _ (mem_getD' (l := f.2.2.1) (k := i) (d := []) (by omega))
          unfold FlushTrue_L3
          dsimp only
          rw [if_true' (dec_t (by omega)), ck_in (by intro _; omega), ck_in (by intro _ _; omega), Int.toNat_natCast, cont_eq _ _ (by omega), letO_def, ck_in (by intro _ _; rfl), letO_def, inc64 (by omega)]
          refine ⟨_, rfl, rfl, fun h => ?_⟩
          dsimp only [Option.getD_some]
          rw [Bool.or_eq_true]
          by_cases e : q = i
          · right
            subst e
            rw [Bool.and_eq_true]
            refine ⟨?_, decide_eq_true q2⟩
            rw [beq_iff_eq]
            exact bit8_andNot hm hgo q1 hne q3
          · exact .inl (e2 (by omega))) (by
          rintro ⟨b, ii⟩ ⟨e1, e2⟩
          dsimp only at e1 e2
          subst e1
          unfold FlushTrue_L3
          dsimp only
          rw [if_false' (dec_f (by omega))]
          exact ⟨_, rfl, e2 (by omega)⟩)
        rw [bind_of z1, if_false' (by rw [z2]; rfl), inc64 (by omega)]) (by
        unfold FlushTrue_L2
        rw [Int.toNat_natCast, if_false' (dec_f (by omega))])
      rw [bindE_inl hin, inc64 (by omega)]) (by
      unfold FlushTrue_L1
      rw [if_false' (dec_f (by omega))])
    rw [bindE_inl hloop, g1, g2]
    simp
  · rw [if_true' (by rw [bne_iff_ne]; exact h0)]
end Go.Proofs.Ythjbflbcdohooaa.Fl
