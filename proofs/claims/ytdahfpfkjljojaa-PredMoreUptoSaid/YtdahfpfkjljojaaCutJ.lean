/- Predicates over cuts: where more is true. -/
import Derived.Test.YtdahfpfkjljojaaCutI
open Go Go.Proofs.Ytdahfpfkjljojaa.Sy Go.Proofs.Ytdahfpfkjljojaa.Pu
set_option linter.unusedVariables false
set_option linter.unusedSimpArgs false
namespace Go.Proofs.Ytdahfpfkjljojaa.Ct
open Go.Proofs.Ytdahfpfkjljojaa.Vc (EV dE z6 evp evk evm VectRun cnt cntV chkF withinF maxV minV)
theorem max64 : IntKind.max .u64 = 18446744073709551615 := by decide
theorem bit_nat {n k : Nat} (hn : n < 18446744073709551616) (hk : k ≤ 64) : bitI (n : Int) (k : Int) = n.testBit k := by
  have hd : n / 2 ^ k ≤ n := Nat.div_le_self _ _
  unfold bitI
  rw [shr_N (k := .u64) hk, show arR .and .u64 ((n / 2 ^ k : Nat) : Int) (1 : Int) = ((n / 2 ^ k &&& 1 : Nat) : Int) from and_N (k := .u64) (b := 1) (by rw [max64]; omega) (by decide), Nat.and_one_is_mod, Nat.testBit_eq_decide_div_mod_eq]
  by_cases e : n / 2 ^ k % 2 = 1
  · rw [decide_eq_true e, e]; rfl
  · rw [decide_eq_false e, beq_eq_false_iff_ne]
    exact fun hx => e (Int.ofNat.inj hx)
theorem bit_or {a b : Int} (ha : 0 ≤ a ∧ a ≤ 18446744073709551615) (hb : 0 ≤ b ∧ b ≤ 18446744073709551615) {k : Nat} (hk : k ≤ 64) (h : bitI a (k : Int) = true) : bitI (arR .or .u64 a b) (k : Int) = true := by
  obtain ⟨n, rfl⟩ : ∃ n : Nat, a = (n : Int) := ⟨a.toNat, by omega⟩
  obtain ⟨m, rfl⟩ : ∃ m : Nat, b = (m : Int) := ⟨b.toNat, by omega⟩
  rw [bit_nat (by omega) hk] at h
  rw [or_N (k := .u64) (by rw [max64]; omega) (by rw [max64]; omega), bit_nat (Nat.or_lt_two_pow (n := 64) (by omega) (by omega)) hk, Nat.testBit_or, h]
  rfl
section
variable {h : List EV} {v : List (List Int)} {st : List (List (List Int))} {T T' : List (List Bool)}
abbrev More (h : List EV) (T T' : List (List Bool)) : Prop := ∀ p, p < 6 → ∀ k : Nat, (k : Int) ≤ NF h p → tr T p k = true → tr T' p k = true
theorem More.so (hm : More h T T') {c : List Int} (hc : Valid (NF h) c) (hs : So T c) : So T' c := fun p hp => by
  have := hc.rng p hp
  exact hm p hp _ (by omega) (hs p hp)
theorem More.reach (X : Cx h v st) (hm : More h T T') {c : List Int} (hr : Reach h st T' c) : Reach h st T c := by
  induction hr with
  | zero hn => exact .zero fun hs => hn (hm.so (zero_valid X) hs)
  | step h1 h2 h3 h4 h5 ih => exact .step ih h2 h3 h4 fun hs => h5 (hm.so h3 hs)
end
theorem nil_first : ∃ T, anyTruth [] [(1 : Int), (1 : Int), (1 : Int), (1 : Int), (1 : Int), (1 : Int)] = some T ∧ pred_First [] T = some (Z6, 0) := by
  obtain ⟨v, st, X⟩ := cx_of (h := []) (by decide +kernel)
  obtain ⟨T, t1, t2, t3⟩ := truth_ok X [(1 : Int), (1 : Int), (1 : Int), (1 : Int), (1 : Int), (1 : Int)]
  refine ⟨T, t1, ?_⟩
  have hs : So T Z6 := fun p hp => by
    rw [Z6_at, t3 p hp _ (by show (0 : Int) ≤ 0; decide)]
    have : [(1 : Int), (1 : Int), (1 : Int), (1 : Int), (1 : Int), (1 : Int)].getD p 0 = 1 := by
      rcases (by omega : p = 0 ∨ p = 1 ∨ p = 2 ∨ p = 3 ∨ p = 4 ∨ p = 5) with rfl | rfl | rfl | rfl | rfl | rfl <;> rfl
    rw [this]
    exact late_bits.2.2.2.2
  rcases First_ok X t2 with ⟨c, e1, e2, e3⟩ | ⟨_, e2⟩
  · rw [e1]
    congr 2
    refine ext_getD 0 e2.1.len fun j hj => ?_
    rw [e2.1.len] at hj
    have a := e2.1.rng j hj
    rw [Z6_at]
    have : NF [] j = 0 := rfl
    omega
  · exact absurd ⟨_, zero_valid X, zero_closed, hs⟩ e2
theorem more_law (h : List EV) (a b : List Int) (la : a.length = 6) (lb : b.length = 6) (ra : ∀ x ∈ a, 0 ≤ x ∧ x ≤ 18446744073709551615) (rb : ∀ x ∈ b, 0 ≤ x ∧ x ≤ 18446744073709551615) : PredMore h a b = some true := by
  unfold PredMore
  obtain ⟨T1, c1, c2⟩ := nil_first
  obtain ⟨T0, a1, a2⟩ := sent_first
  rw [bind_of c1, bind_of c2, if_false' (by rw [(eqA6I_iff _ _).2 rfl]; rfl), show sent = some sentH from rfl, bind_of rfl, bind_of rfl, bind_of a1, bind_of a2, if_false' (by rw [(eqA6I_iff _ _).2 rfl]; rfl), bind_of (chk_eq h)]
  by_cases hc : chkF h = 0
  · obtain ⟨v, st, X⟩ := cx_of hc
    rw [if_false' (by rw [hc]; rfl)]
    obtain ⟨m, m1, m2, m3⟩ := loop_count (B := fun x : List Int × Int => PredMore_L1 b x.1 x.2) (fun k x => x.2 = (k : Int) ∧ x.1.length = 6 ∧ (∀ p, p < k → x.1.getD p 0 = arR .or .u64 (a.getD p 0) (b.getD p 0)) ∧ ∀ p, k ≤ p → x.1.getD p 0 = a.getD p 0) 6 (fun m => m.length = 6 ∧ ∀ p, p < 6 → m.getD p 0 = arR .or .u64 (a.getD p 0) (b.getD p 0)) (x := (a, (0 : Int))) ⟨rfl, la, fun p hp => by omega, fun p _ => rfl⟩ (by
      rintro k ⟨m, kk⟩ hk ⟨e1, e2, e3, e4⟩
      dsimp only at e1 e2 e3 e4
      subst e1
      unfold PredMore_L1
      dsimp only
      rw [if_true' (dec_t (by omega)), ck_in (by omega), ck_in (by omega), ck_in (by omega), letO_def, Int.toNat_natCast, inc64 (by omega)]
      refine ⟨_, rfl, rfl, by simpa using e2, fun p hp => ?_, fun p hp => ?_⟩
      · dsimp only
        rw [getD_setD (by omega)]
        by_cases e : p = k
        · rw [if_pos e, e, e4 k (Nat.le_refl _)]
        · rw [if_neg e]; exact e3 p (by omega)
      · dsimp only
        rw [getD_setD (by omega), if_neg (by omega)]; exact e4 p (by omega)) (by
      rintro ⟨m, kk⟩ ⟨e1, e2, e3, e4⟩
      dsimp only at e1 e2 e3 e4
      subst e1
      unfold PredMore_L1
      dsimp only
      rw [if_false' (dec_f (by omega))]
      exact ⟨_, rfl, e2, fun p hp => e3 p hp⟩)
    obtain ⟨T, t1, t2, t3⟩ := truth_ok X a
    obtain ⟨T', u1, u2, u3⟩ := truth_ok X m
    have hm : More h T T' := fun p hp k hk ht => by
      rw [u3 p hp k hk, m3 p hp]
      rw [t3 p hp k hk] at ht
      have hn : NF h p ≤ 60 := (X.fact.nn p hp).2
      exact bit_or (ra _ (mem_getD' (d := 0) (by omega))) (rb _ (mem_getD' (d := 0) (by omega))) (by omega) ht
    rw [bind_of m1, bind_of t1]
    obtain ⟨x, x1, x2⟩ : ∃ x, pred_First h T = some x ∧ (x.2 = 0 → Fit h st T x.1) := by
      rcases First_ok X t2 with ⟨c, e1, e2, e3⟩ | ⟨e1, e2⟩
      · exact ⟨_, e1, fun _ => e2⟩
      · exact ⟨_, e1, fun hx => by cases hx⟩
    obtain ⟨y, y1, y2⟩ : ∃ y, pred_First h T' = some y ∧ ∀ d, Fit h st T' d → y.2 = 0 ∧ Le6 y.1 d := by
      rcases First_ok X u2 with ⟨c, e1, e2, e3⟩ | ⟨e1, e2⟩
      · exact ⟨_, e1, fun d hd => ⟨rfl, e3 d hd⟩⟩
      · exact ⟨_, e1, fun d hd => absurd ⟨d, hd⟩ e2⟩
    rw [bind_of x1, bind_of u1, bind_of y1, within_eq, letO_def, ck_in (by intro _ _; rfl)]
    simp only [Option.getD_some]
    rw [if_false' (by
      by_cases hx : x.2 = 0
      · have hf := x2 hx
        obtain ⟨q1, q2⟩ := y2 x.1 ⟨hf.1, hf.2.1, hm.so hf.1 hf.2.2⟩
        rw [q1, Vc.within_iff.2 q2]
        simp
      · rw [Bool.and_eq_false_iff]
        left; rw [beq_eq_false_iff_ne]; exact hx)]
    rw [bind_of t1]
    by_cases hP : Pn h ≤ 4096
    · obtain ⟨p, p1, p2⟩ := Must_ok X t2 hP
      obtain ⟨q, q1, q2⟩ := Must_ok X u2 hP
      simp only [bind_of p1, bind_of t1, bind_of u1, bind_of q1]
      congr 1
      rw [Bool.and_eq_true]
      refine ⟨rfl, ?_⟩
      cases hp : p with
      | false => rfl
      | true =>
        have : q = true := q2.2 fun hr => p2.1 hp (hm.reach X hr)
        rw [this]
        rfl
    · simp only [bind_of (Must_large X t2 (by omega)), bind_of t1, bind_of u1, bind_of (Must_large X u2 (by omega))]
      rfl
  · rw [if_true' (by rw [bne_iff_ne]; exact hc)]
end Go.Proofs.Ytdahfpfkjljojaa.Ct
