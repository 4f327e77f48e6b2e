/- wire.Sum keeps its promise: the sum that the mathematics names, for every text of at most 4194304 bytes. -/
import Derived.Test.YtnclmncdgehadaaSye
import Derived.Test.YtnclmncdgehadaaProg
import Derived.KernelRfl
namespace Go.Proofs.Ytnclmncdgehadaa.Sy
set_option linter.unusedSimpArgs false
set_option linter.unusedVariables false
/-- The sum's number as bits. -/
def toI (v : BitVec 32) : Int := (v.toNat : Int)
def polyV : BitVec 32 := 2197175160#32
def bitV (c : BitVec 32) : BitVec 32 := if c &&& 1#32 = 1#32 then (c >>> 1) ^^^ polyV else c >>> 1
def bitsV : Nat → BitVec 32 → BitVec 32
  | 0, c => c
  | n + 1, c => bitsV n (bitV c)
def sumV : List UInt8 → BitVec 32 → BitVec 32
  | [], c => c
  | b :: bs, c => sumV bs (bitsV 8 (c ^^^ BitVec.ofNat 32 b.toNat))
def sumF0 (s : ByteArray) : Int := toI (~~~ sumV s.data.toList (4294967295#32))

theorem wrap_nat {n : Nat} (h : n < 2 ^ 32) : IntKind.wrap .u32 (n : Int) = (n : Int) := by
  simp only [IntKind.wrap, IntKind.bits, IntKind.signed, Bool.false_and, Bool.false_eq_true, if_false]
  omega
theorem ofInt_toI (v : BitVec 32) : BitVec.ofInt 32 (toI v) = v := by simp [toI]
theorem xor_I (a b : BitVec 32) : arR .xor .u32 (toI a) (toI b) = toI (a ^^^ b) := by
  show IntKind.wrap .u32 (((BitVec.ofInt 32 (toI a) ^^^ BitVec.ofInt 32 (toI b)).toNat : Nat) : Int) = _
  rw [ofInt_toI, ofInt_toI, wrap_nat (a ^^^ b).isLt]; rfl
theorem and_I (a b : BitVec 32) : arR .and .u32 (toI a) (toI b) = toI (a &&& b) := by
  show IntKind.wrap .u32 (((BitVec.ofInt 32 (toI a) &&& BitVec.ofInt 32 (toI b)).toNat : Nat) : Int) = _
  rw [ofInt_toI, ofInt_toI, wrap_nat (a &&& b).isLt]; rfl
theorem shr_I (a : BitVec 32) : arR .shr .u32 (toI a) 1 = toI (a >>> 1) := by
  show (toI a).fdiv (2 ^ (min (1 : Int).toNat 32)) = _
  simp only [toI, BitVec.toNat_ushiftRight, Nat.shiftRight_eq_div_pow]
  rw [Int.fdiv_eq_ediv_of_nonneg _ (by decide)]
  rfl
theorem not_I (a : BitVec 32) : unaR .xor .u32 (toI a) = toI (~~~ a) := by
  show IntKind.wrap .u32 (((BitVec.ofInt 32 (IntKind.max .u32) ^^^ BitVec.ofInt 32 (toI a)).toNat : Nat) : Int) = _
  rw [ofInt_toI]
  have : BitVec.ofInt 32 (IntKind.max .u32) = BitVec.allOnes 32 := by decide
  rw [this, wrap_nat (BitVec.allOnes 32 ^^^ a).isLt, BitVec.allOnes_xor]; rfl
theorem toI_inj {a b : BitVec 32} (h : toI a = toI b) : a = b := by
  apply BitVec.eq_of_toNat_eq
  have : ((a.toNat : Nat) : Int) = b.toNat := h
  omega
theorem byte_I (n : Nat) (h : n < 256) : IntKind.wrap .u32 (n : Int) = toI (BitVec.ofNat 32 n) := by
  rw [wrap_nat (by omega)]
  simp only [toI, BitVec.toNat_ofNat]
  rw [Nat.mod_eq_of_lt (by omega)]

theorem bitV_xor (a b : BitVec 32) : bitV (a ^^^ b) = bitV a ^^^ bitV b := by
  have key : ∀ c : BitVec 32, bitV c = (c >>> 1) ^^^ (if c.getLsbD 0 then polyV else 0#32) := by
    intro c
    have h : (c &&& 1#32 = 1#32) ↔ c.getLsbD 0 = true := by
      constructor
      · intro h
        have := congrArg (fun v => BitVec.getLsbD v 0) h
        simpa using this
      · intro h
        apply BitVec.eq_of_getLsbD_eq
        intro i hi
        by_cases h0 : i = 0
        · subst h0; simp [h]
        · simp [h0]
    unfold bitV
    by_cases hc : c.getLsbD 0 = true
    · rw [if_pos (h.2 hc), if_pos hc]
    · rw [if_neg (fun e => hc (h.1 e)), if_neg hc]; simp
  rw [key, key a, key b, BitVec.ushiftRight_xor_distrib, BitVec.getLsbD_xor]
  have hp : ∀ u v : BitVec 32, (u ^^^ polyV) ^^^ (v ^^^ polyV) = u ^^^ v := fun u v => by
    rw [show (u ^^^ polyV) ^^^ (v ^^^ polyV) = (u ^^^ v) ^^^ (polyV ^^^ polyV) by ac_rfl, BitVec.xor_self, BitVec.xor_zero]
  cases a.getLsbD 0 <;> cases b.getLsbD 0 <;> simp [hp]
  · ac_rfl
  · ac_rfl
theorem bitsV_xor : ∀ (n : Nat) (a b : BitVec 32), bitsV n (a ^^^ b) = bitsV n a ^^^ bitsV n b
  | 0, a, b => rfl
  | n + 1, a, b => by
    show bitsV n (bitV (a ^^^ b)) = _
    rw [bitV_xor, bitsV_xor n]; rfl

theorem sumV_lin : ∀ (xs ys zs ds : List UInt8) (a b c d : BitVec 32), xs.length = ds.length → ys.length = ds.length → zs.length = ds.length → (∀ i (h : i < ds.length) (h1 : i < xs.length) (h2 : i < ys.length) (h3 : i < zs.length), ds[i] = xs[i] ^^^ ys[i] ^^^ zs[i]) →
    d = a ^^^ b ^^^ c → sumV ds d = sumV xs a ^^^ sumV ys b ^^^ sumV zs c
  | xs, ys, zs, [], a, b, c, d, h1, h2, h3, _, h => by
    cases xs <;> cases ys <;> cases zs <;> simp_all [sumV]
  | [], _, _, _ :: _, _, _, _, _, h1, _, _, _, _ => by simp at h1
  | _ :: _, [], _, _ :: _, _, _, _, _, _, h2, _, _, _ => by simp at h2
  | _ :: _, _ :: _, [], _ :: _, _, _, _, _, _, _, h3, _, _ => by simp at h3
  | x :: xs, y :: ys, z :: zs, e :: ds, a, b, c, d, h1, h2, h3, h4, h => by
    have h0 : e = x ^^^ y ^^^ z := h4 0 (by simp) (by simp) (by simp) (by simp)
    refine sumV_lin xs ys zs ds _ _ _ _ (by simpa using h1) (by simpa using h2) (by simpa using h3) (fun i k1 k2 k3 k4 => ?_) ?_
    · exact h4 (i + 1) (by simpa using k1) (by simpa using k2) (by simpa using k3) (by simpa using k4)
    · rw [← bitsV_xor, ← bitsV_xor]
      congr 1
      have hb : BitVec.ofNat 32 e.toNat = BitVec.ofNat 32 x.toNat ^^^ BitVec.ofNat 32 y.toNat ^^^ BitVec.ofNat 32 z.toNat := by
        rw [h0]
        apply BitVec.eq_of_toNat_eq
        simp only [UInt8.toNat_xor, BitVec.toNat_ofNat, BitVec.toNat_xor]
        have hx := x.toNat_lt
        have hy := y.toNat_lt
        have hz := z.toNat_lt
        rw [Nat.mod_eq_of_lt (show x.toNat < 2 ^ 32 by omega), Nat.mod_eq_of_lt (show y.toNat < 2 ^ 32 by omega), Nat.mod_eq_of_lt (show z.toNat < 2 ^ 32 by omega)]
        refine Nat.mod_eq_of_lt ?_
        have h1 : x.toNat ^^^ y.toNat < 2 ^ 32 := Nat.xor_lt_two_pow (by omega) (by omega)
        exact Nat.xor_lt_two_pow h1 (by omega)
      rw [h, hb]
      ac_rfl

theorem sum_empty : sumF0 ⟨#[]⟩ = 0 := by decide
theorem sum_a : sumF0 ⟨#[97]⟩ = 3251651376 := by decide +kernel
end Go.Proofs.Ytnclmncdgehadaa.Sy
namespace Go.Proofs.Ytnclmncdgehadaa.Wire
set_option linter.unusedSimpArgs false
set_option linter.unusedVariables false
open Go Go.Proofs.Ytnclmncdgehadaa.Sy Go.Proofs
def tab : Tab := [none, none, some (.int .i64, true), some (.int .i64, true), some (.bool, true), some (.int .u8, true), none, none, none, some (.str, true), none, none, none, none, none, none, none, none, none, none, none, none,
  some (.int .u32, true), none, some (.list (.int .u8), false), none, some (.arr 6 (.int .i64), true), some (.arr 6 (.int .i64), true), some (.st [.int .i64, .int .i64, .int .i64, .int .i64, .int .i64, .arr 6 (.int .i64), .str], true), some (.st [.int .i64, .int .i64, .int .i64, .int .i64, .int .i64, .arr 6 (.int .i64), .str], true), some (.int .i64, true), none, none, none, none, none, none, none, none, none, none, some (.int .u64, true)]
theorem tabOk : TabOk Try.prog tab := tabOk_of (by kernel_rfl) (by kernel_rfl)
def sumSpec (sumF : ByteArray → Int) : FSpec := ⟨[.str], [.v], [.int .u32], [.n], fun x => bulkL [.str] x ≤ 4194304, fun x => (sumF x.1, ())⟩

theorem i64_add {i : Int} {k : Int} (h : -9223372036854775808 ≤ i + k ∧ i + k ≤ 9223372036854775807) : arR .add .i64 i k = i + k := by
  show IntKind.wrap .i64 (i + k) = i + k
  rw [IntKind.wrap_i64]
  omega

theorem sum_runs (sumF : ByteArray → Int) (hsum : sumF = sumF0) : SpecRuns Try.prog 7 (sumSpec sumF) := by
  have hsp : SpecsOk Try.prog [] := by intro f s h; cases h
  refine specRuns_of_pw tabOk (specs := []) hsp Try.func7 rfl (Nat.le_of_ble_eq_true rfl) rfl ?_
  rintro E ⟨(b : ByteArray), ⟨⟩⟩ hP hpre
  have hbs : b.size ≤ 4194304 := by
    have : b.size + 1 + 0 ≤ 4194304 := hpre
    omega
  obtain ⟨L, hL⟩ : ∃ L, L = LpR E := ⟨_, rfl⟩
  obtain ⟨A, hA⟩ : ∃ A, A = real0 := ⟨_, rfl⟩
  rw [← hL, ← hA]
  cbv
  rw [hL]
  refine loop_at (hP ▸ tabOk) (hP ▸ hsp) [3, 7] (fun x : Int × Int => [(3, .val (.int .u32) .n x.1), (7, .val (.int .i64) .n x.2)])
    (fun x => 0 ≤ x.2 ∧ x.2 ≤ b.size ∧ ∃ v, x.1 = toI v ∧ sumV (b.data.toList.drop x.2.toNat) v = sumV b.data.toList 4294967295#32) (fun x => (b.size - x.2).toNat) (4294967295, 0) ⟨by simp, by simp, 4294967295#32, by decide, by simp⟩ (by cbv) ?_
  rintro ⟨c, i⟩ hD R hR
  rw [← hA, ← hL]
  cbv
  obtain ⟨h0, h1, v, hv, hs⟩ : 0 ≤ i ∧ i ≤ (b.size : Int) ∧ ∃ v, c = toI v ∧ sumV (b.data.toList.drop i.toNat) v = sumV b.data.toList 4294967295#32 := hD
  refine ite_in hA (fun hc => ?_) (fun hc => ?_)
  · have hi : i < (b.size : Int) := by subst hA; exact of_decide_eq_true hc
    refine ⟨inb_in hA (by subst hA; exact ⟨h0, hi⟩), ?_⟩
    have hlen : b.data.toList.length = b.size := Array.length_toList
    have hin : i.toNat < b.data.toList.length := by omega
    have hx : A.ar .xor .u32 c (A.conv .u32 (A.sidx b i)) = toI (v ^^^ BitVec.ofNat 32 (b.data.toList[i.toNat]).toNat) := by
      subst hA
      have e1 : real0.sidx b i = ((b.data.toList[i.toNat]).toNat : Int) := by
        show ((b.data.toList.getD i.toNat 0).toNat : Int) = _
        rw [List.getD_eq_getElem?_getD, List.getElem?_eq_getElem hin]; rfl
      have e2 : real0.conv .u32 (real0.sidx b i) = toI (BitVec.ofNat 32 (b.data.toList[i.toNat]).toNat) := by
        rw [e1]
        exact byte_I _ (UInt8.toNat_lt _)
      rw [e2, hv]
      exact xor_I _ _
    have hdrop : b.data.toList.drop i.toNat = b.data.toList[i.toNat] :: b.data.toList.drop (i.toNat + 1) := by rw [List.getElem_cons_drop]
    rw [hL]
    refine loop_at (hP ▸ tabOk) (hP ▸ hsp) [3, 16] (fun x : Int × Int => [(3, .val (.int .u32) .n x.1), (16, .val (.int .i64) .n x.2)])
      (fun x => 0 ≤ x.2 ∧ x.2 ≤ 8 ∧ ∃ u, x.1 = toI u ∧ bitsV (8 - x.2).toNat u = bitsV 8 (v ^^^ BitVec.ofNat 32 (b.data.toList[i.toNat]).toNat)) (fun x => (8 - x.2).toNat) (A.ar .xor .u32 c (A.conv .u32 (A.sidx b i)), 0) ⟨by simp, by simp, _, hx, rfl⟩ (by cbv) ?_
    rintro ⟨d, j⟩ hD2 R2 hR2
    rw [← hA, ← hL]
    cbv
    obtain ⟨k0, k1, u, hu, hb⟩ : 0 ≤ j ∧ j ≤ 8 ∧ ∃ u, d = toI u ∧ bitsV (8 - j).toNat u = bitsV 8 (v ^^^ BitVec.ofNat 32 (b.data.toList[i.toNat]).toNat) := hD2
    have hcond : A.cmp .eql (A.ar .and .u32 d 1) 1 = decide (u &&& 1#32 = 1#32) := by
      subst hA
      rw [hu, show real0.ar .and .u32 (toI u) 1 = toI (u &&& 1#32) from and_I u 1#32]
      show (toI (u &&& 1#32) == 1) = _
      rw [Bool.eq_iff_iff, decide_eq_true_eq, beq_iff_eq]
      exact ⟨fun h => toI_inj (b := 1#32) h, fun h => by rw [h]; rfl⟩
    have hsh : A.ar .shr .u32 d 1 = toI (u >>> 1) := by subst hA; rw [hu]; exact shr_I u
    refine ite_in hA (fun hc2 => ?_) (fun hc2 => ?_)
    · have hj : j < 8 := by subst hA; exact of_decide_eq_true hc2
      have hj1 : A.ar .add .i64 j 1 = j + 1 := by subst hA; exact i64_add (by omega)
      have hstep : (8 - j).toNat = (8 - (j + 1)).toNat + 1 := by omega
      refine ite_in hA (fun hc3 => ?_) (fun hc3 => ?_)
      · refine ⟨nn_in hA (by decide), ?_⟩
        refine hR2 _ (A.ar .xor .u32 (A.ar .shr .u32 d 1) 2197175160, A.ar .add .i64 j 1) ⟨?_, ?_, bitV u, ?_, ?_⟩ ?_ (by cbv)
        · dsimp only; omega
        · dsimp only; omega
        · dsimp only
          have h3 : u &&& 1#32 = 1#32 := of_decide_eq_true (hcond ▸ hc3)
          unfold bitV
          rw [if_pos h3, hsh]
          subst hA
          exact xor_I (u >>> 1) polyV
        · dsimp only
          rw [hj1, ← hb, hstep]; rfl
        · dsimp only; omega
      · refine ⟨nn_in hA (by decide), ?_⟩
        refine hR2 _ (A.ar .shr .u32 d 1, A.ar .add .i64 j 1) ⟨?_, ?_, bitV u, ?_, ?_⟩ ?_ (by cbv)
        · dsimp only; omega
        · dsimp only; omega
        · dsimp only
          have h3 : ¬ u &&& 1#32 = 1#32 := of_decide_eq_false (hcond ▸ hc3)
          unfold bitV
          rw [if_neg h3, hsh]
        · dsimp only
          rw [hj1, ← hb, hstep]; rfl
        · dsimp only; omega
    · have hj : j = 8 := by
        have : ¬ j < 8 := by subst hA; exact of_decide_eq_false hc2
        omega
      have hi1 : A.ar .add .i64 i 1 = i + 1 := by subst hA; exact i64_add (by omega)
      subst hj
      refine hR _ (d, A.ar .add .i64 i 1) ⟨?_, ?_, u, hu, ?_⟩ ?_ (by cbv)
      · dsimp only; omega
      · dsimp only; omega
      · dsimp only
        rw [hi1, ← hs, hdrop, show (i + 1).toNat = i.toNat + 1 by omega]
        show _ = sumV _ (bitsV 8 _)
        rw [← hb]; rfl
      · dsimp only; omega
  · have hi : i = (b.size : Int) := by
      have : ¬ i < (b.size : Int) := by subst hA; exact of_decide_eq_false hc
      omega
    have hlen : b.data.toList.length = b.size := Array.length_toList
    show (A.una .xor .u32 c, ()) = (sumF b, ())
    rw [hsum, hv]
    subst hA
    rw [show real0.una .xor .u32 (toI v) = toI (~~~ v) from not_I v]
    rw [hi, List.drop_eq_nil_of_le (by omega)] at hs
    show (toI (~~~ v), ()) = (toI (~~~ sumV b.data.toList 4294967295#32), ())
    rw [← hs]; rfl
end Go.Proofs.Ytnclmncdgehadaa.Wire
