/- The law WireLinear returns true for every three texts whose bulk is at most 1048576, and they read behind the call as they read before. -/
import Derived.Test.YtnclmncdgehadaaWire
import Derived.Test.YtnclmncdgehadaaRows
import Derived.WalkKit
import Derived.ProofKit
import Derived.OpenShut
import Derived.ShutString
import Derived.ChangeOld
import Derived.ChangeCalls
import Derived.Below
import Derived.SizedLaws
import Derived.JoinedCond
namespace Go.Proofs.Ytnclmncdgehadaa.Wire
set_option linter.unusedSimpArgs false
set_option linter.unusedVariables false
open Go Go.Proofs.Ytnclmncdgehadaa.Sy Go.Proofs
set_option maxHeartbeats 1000000
def sumSpec2 (sumF : ByteArray → Int) (pre : ByteArray → Prop) : FSpec := ⟨[.str], [.v], [.int .u32], [.n], fun x => pre x.1, fun x => (sumF x.1, ())⟩
theorem u8_xor (a b : UInt8) : arR .xor .u8 (a.toNat : Int) (b.toNat : Int) = ((a ^^^ b).toNat : Int) := by
  show IntKind.wrap .u8 (((BitVec.ofInt 8 (a.toNat : Int) ^^^ BitVec.ofInt 8 (b.toNat : Int)).toNat : Nat) : Int) = _
  have e : ∀ c : UInt8, BitVec.ofInt 8 (c.toNat : Int) = c.toBitVec := fun c => by
    apply BitVec.eq_of_toNat_eq
    simp
  rw [e, e]
  have h : (a.toBitVec ^^^ b.toBitVec).toNat < 256 := (a.toBitVec ^^^ b.toBitVec).isLt
  have hw : IntKind.wrap .u8 (((a.toBitVec ^^^ b.toBitVec).toNat : Nat) : Int) = ((a.toBitVec ^^^ b.toBitVec).toNat : Int) := by
    simp only [IntKind.wrap, IntKind.bits, IntKind.signed, Bool.false_and, Bool.false_eq_true, if_false]
    omega
  rw [hw]
  rfl

theorem not3 (a b c : BitVec 32) : ~~~(a ^^^ b ^^^ c) = (~~~a ^^^ ~~~b) ^^^ ~~~c := by
  apply BitVec.eq_of_getLsbD_eq
  intro i hi
  simp [hi]

theorem cut_list (s : ByteArray) (n : Nat) : (s.extract 0 n).data.toList = s.data.toList.take n := by
  simp [ByteArray.data_extract, Array.toList_extract]

theorem lin (sumF : ByteArray → Int) (hsum : sumF = sumF0) (pre : ByteArray → Prop) (hpreE : pre = fun b => b.size ≤ 1048576) (hsp : SpecsOk Try.prog [(7, sumSpec2 sumF pre)]) : SpecRuns Try.prog 3 (lawSpec [.str, .str, .str]) := by
  refine specRuns_of_pw tabOk hsp Try.func3 rfl (Nat.le_of_ble_eq_true rfl) rfl ?_
  rintro E ⟨(x : ByteArray), (y : ByteArray), (z : ByteArray), ⟨⟩⟩ hP hpre
  obtain ⟨hx, hy, hz⟩ : x.size ≤ 1048576 ∧ y.size ≤ 1048576 ∧ z.size ≤ 1048576 := by
    have : x.size + 1 + (y.size + 1 + (z.size + 1 + 0)) ≤ 1048576 := hpre.2
    omega
  clear hpre
  obtain ⟨L, hL⟩ : ∃ L, L = LpR E := ⟨_, rfl⟩
  obtain ⟨A, hA⟩ : ∃ A, A = real0 := ⟨_, rfl⟩
  rw [← hL, ← hA]
  cbv
  have hpre1 : ∀ b : ByteArray, b.size ≤ 1048576 → pre b := fun b hb => by rw [hpreE]; exact hb
  refine ⟨hpre1 _ (by decide), imp_in hA fun _ => hpre1 _ (by decide), ?_⟩
  refine ite_in hA (fun hc => ?_) (fun _ => ?_)
  · exfalso
    subst hA
    rw [hsum] at hc
    have e1 : (sumF0 ⟨⟨[]⟩⟩ : Int) = 0 := sum_empty
    have e2 : (sumF0 ⟨⟨[97]⟩⟩ : Int) = 3251651376 := sum_a
    have hc' : (cmpR .neq (sumF0 ⟨⟨[]⟩⟩) 0 || cmpR .neq (sumF0 ⟨⟨[97]⟩⟩) 3251651376) = true := hc
    rw [e1, e2] at hc'
    exact absurd hc' (by decide)
  let n : Int := A.mn (A.mn (A.slen x) (A.slen y)) (A.slen z)
  have hn : n = A.mn (A.mn (A.slen x) (A.slen y)) (A.slen z) := rfl
  have hnn : 0 ≤ n ∧ n ≤ 1048576 ∧ n.toNat ≤ x.size ∧ n.toNat ≤ y.size ∧ n.toNat ≤ z.size := by
    have h1 : ∀ a b : Int, A.mn a b = if b < a then b else a := fun _ _ => by rw [hA]; rfl
    have h2 : ∀ b : ByteArray, A.slen b = b.size := fun _ => by rw [hA]; rfl
    rw [h1, h1, h2, h2, h2] at hn
    clear_value n
    split at hn <;> split at hn <;> omega
  have hrl : ((List.length (A.rep (.int .u8) n) : Nat) : Int) = n := by
    have e : A.rep (.int .u8) n = List.replicate n.toNat (0 : Int) := by rw [hA]; rfl
    have e2 : (List.replicate n.toNat (0 : Int)).length = n.toNat := List.length_replicate
    have e3 : List.length (A.rep (.int .u8) n) = n.toNat := Eq.trans (congrArg List.length e) e2
    rw [e3]
    omega
  have hlen0 : A.len (.int .u8) (A.rep (.int .u8) n) = n := by
    have : ∀ l : List Int, A.len (.int .u8) l = (l.length : Int) := fun l => by rw [hA]; rfl
    exact (this _).trans hrl
  refine ⟨bnd_in hA (show (0 : Int) ≤ 0 ∧ 0 ≤ n ∧ n ≤ n by omega), smL_in hA (show n ≤ 4294967296 by omega), ?_⟩
  rw [hL]
  refine loop_atF (hP ▸ tabOk) (hP ▸ hsp) [25] [8, 27] (fun u : List Int × Int => [(8, .val (.list (.int .u8)) (.l .n) u.1), (27, .val (.int .i64) .n u.2)])
    (fun u => 0 ≤ u.2 ∧ u.2 ≤ n ∧ (u.1.length : Int) = n ∧ ∀ k : Nat, (k : Int) < u.2 → u.1.getD k 0 = (((x.data.toList.getD k 0) ^^^ (y.data.toList.getD k 0) ^^^ (z.data.toList.getD k 0)).toNat : Int)) (fun u => (n - u.2).toNat) (A.rep (.int .u8) n, 0) ⟨Int.le_refl 0, hnn.1, hrl, fun k hk => (by have hk : (k : Int) < 0 := hk; omega)⟩ (by cbv) ?_
  rintro ⟨l, i⟩ hD R hR
  rw [← hA, ← hL]
  cbv
  obtain ⟨h0, h1, h2, h3⟩ : 0 ≤ i ∧ i ≤ n ∧ (l.length : Int) = n ∧ ∀ k : Nat, (k : Int) < i → l.getD k 0 = (((x.data.toList.getD k 0) ^^^ (y.data.toList.getD k 0) ^^^ (z.data.toList.getD k 0)).toNat : Int) := hD
  refine ite_in hA (fun hc => ?_) (fun hc => ?_)
  · have hi : i < n := by
      have hl : ∀ a b : Int, A.cmp .lss a b = decide (a < b) := fun a b => by rw [hA]; rfl
      have hc' : A.cmp .lss i (A.len (.int .u8) (A.rep (.int .u8) n)) = true := hc
      rw [hl, hlen0] at hc'
      exact of_decide_eq_true hc'
    have hlx : x.data.toList.length = x.size := Array.length_toList
    have hly : y.data.toList.length = y.size := Array.length_toList
    have hlz : z.data.toList.length = z.size := Array.length_toList
    have hsl : ∀ b : ByteArray, A.slen b = (b.size : Int) := fun b => by rw [hA]; rfl
    have hi1 : A.ar .add .i64 i 1 = i + 1 := by rw [hA]; exact i64_add (by omega)
    refine ⟨inb_in hA (show 0 ≤ i ∧ i < A.slen x by rw [hsl]; omega), inb_in hA (show 0 ≤ i ∧ i < A.slen y by rw [hsl]; omega), inb_in hA (show 0 ≤ i ∧ i < A.slen z by rw [hsl]; omega), inb_in hA (show 0 ≤ i ∧ i < A.len (.int .u8) l by rw [show A.len (.int .u8) l = (l.length : Int) by rw [hA]; rfl]; omega), ?_⟩
    have hv : A.ar .xor .u8 (A.ar .xor .u8 (A.sidx x i) (A.sidx y i)) (A.sidx z i) = (((x.data.toList.getD i.toNat 0) ^^^ (y.data.toList.getD i.toNat 0) ^^^ (z.data.toList.getD i.toNat 0)).toNat : Int) := by
      rw [hA]
      show arR .xor .u8 (arR .xor .u8 ((x.data.toList.getD i.toNat 0).toNat : Int) ((y.data.toList.getD i.toNat 0).toNat : Int)) ((z.data.toList.getD i.toNat 0).toNat : Int) = _
      rw [u8_xor, u8_xor]
    refine hR _ (A.set (.int .u8) l i (A.ar .xor .u8 (A.ar .xor .u8 (A.sidx x i) (A.sidx y i)) (A.sidx z i)), A.ar .add .i64 i 1) ⟨?_, ?_, ?_, ?_⟩ ?_ (by cbv)
    · dsimp only; omega
    · dsimp only; omega
    · have : A.set (.int .u8) l i (A.ar .xor .u8 (A.ar .xor .u8 (A.sidx x i) (A.sidx y i)) (A.sidx z i)) = List.set l i.toNat (A.ar .xor .u8 (A.ar .xor .u8 (A.sidx x i) (A.sidx y i)) (A.sidx z i)) := by rw [hA]; rfl
      dsimp only
      rw [this, List.length_set]
      exact h2
    · intro k hk
      have this : A.set (.int .u8) l i (A.ar .xor .u8 (A.ar .xor .u8 (A.sidx x i) (A.sidx y i)) (A.sidx z i)) = List.set l i.toNat (A.ar .xor .u8 (A.ar .xor .u8 (A.sidx x i) (A.sidx y i)) (A.sidx z i)) := by rw [hA]; rfl
      dsimp only at hk ⊢
      rw [hi1] at hk
      rw [this, hv]
      by_cases hki : k = i.toNat
      · subst hki
        rw [List.getD_eq_getElem?_getD, List.getElem?_set_self (by omega)]
        rfl
      · rw [List.getD_eq_getElem?_getD, List.getElem?_set_ne (fun e => hki e.symm), ← List.getD_eq_getElem?_getD]
        have hk' : (k : Int) < i + 1 := hk
        have hki' : (k : Int) ≠ i := fun e => hki (by rw [← e]; rfl)
        have hk2 : (k : Int) < i := Int.lt_iff_le_and_ne.2 ⟨Int.lt_add_one_iff.1 hk', hki'⟩
        exact h3 k hk2
    · dsimp only; omega
  · have hi : i = n := by
      have hl : ∀ a b : Int, A.cmp .lss a b = decide (a < b) := fun a b => by rw [hA]; rfl
      have hc' : A.cmp .lss i (A.len (.int .u8) (A.rep (.int .u8) n)) = false := hc
      rw [hl, hlen0] at hc'
      have := of_decide_eq_false hc'
      omega
    have hlx : x.data.toList.length = x.size := Array.length_toList
    have hly : y.data.toList.length = y.size := Array.length_toList
    have hlz : z.data.toList.length = z.size := Array.length_toList
    have hsl : ∀ b : ByteArray, A.slen b = (b.size : Int) := fun b => by rw [hA]; rfl
    have hcut : ∀ b : ByteArray, A.scut b 0 n = b.extract 0 n.toNat := fun b => by rw [hA]; rfl
    have hcs : ∀ b : ByteArray, b.size ≤ 1048576 → pre (A.scut b 0 n) := fun b hb => hpre1 _ (by rw [hcut, ByteArray.size_extract]; omega)
    have hb2 : A.b2s l = ⟨(l.map fun n => UInt8.ofNat n.toNat).toArray⟩ := by rw [hA]; rfl
    refine ⟨hpre1 _ (show (A.b2s l).size ≤ _ by
        rw [hb2]
        show ((l.map fun n => UInt8.ofNat n.toNat).toArray).size ≤ _
        rw [List.size_toArray, List.length_map]
        omega), bnd_in hA (show (0 : Int) ≤ 0 ∧ 0 ≤ n ∧ n ≤ A.slen x by rw [hsl]; omega), hcs x hx, bnd_in hA (show (0 : Int) ≤ 0 ∧ 0 ≤ n ∧ n ≤ A.slen y by rw [hsl]; omega), hcs y hy, bnd_in hA (show (0 : Int) ≤ 0 ∧ 0 ≤ n ∧ n ≤ A.slen z by rw [hsl]; omega), hcs z hz, ?_⟩
    have hsum3 : sumV (A.b2s l).data.toList 4294967295#32 = sumV (A.scut x 0 n).data.toList 4294967295#32 ^^^ sumV (A.scut y 0 n).data.toList 4294967295#32 ^^^ sumV (A.scut z 0 n).data.toList 4294967295#32 := by
      rw [hcut, hcut, hcut, cut_list, cut_list, cut_list, hb2]
      refine sumV_lin _ _ _ _ _ _ _ _ ?_ ?_ ?_ (fun k k1 k2 k3 k4 => ?_) (by decide)
      · simp; omega
      · simp; omega
      · simp; omega
      · have hkl : k < l.length := by simpa using k1
        have h5 := h3 k (by omega)
        simp only [List.getElem_map, List.getElem_take]
        rw [List.getD_eq_getElem?_getD, List.getElem?_eq_getElem hkl, Option.getD_some, List.getD_eq_getElem?_getD, List.getElem?_eq_getElem (by omega), List.getD_eq_getElem?_getD, List.getElem?_eq_getElem (by omega), List.getD_eq_getElem?_getD, List.getElem?_eq_getElem (by omega)] at h5
        simp only [Option.getD_some] at h5
        rw [h5]
        simp
    have hfin : A.cmp .eql (sumF (A.b2s l)) (A.ar .xor .u32 (A.ar .xor .u32 (sumF (A.scut x 0 n)) (sumF (A.scut y 0 n))) (sumF (A.scut z 0 n))) = true := by
      have hcmp : ∀ a b : Int, A.cmp .eql a b = (a == b) := fun a b => by rw [hA]; rfl
      have har : ∀ a b : BitVec 32, A.ar .xor .u32 (toI a) (toI b) = toI (a ^^^ b) := fun a b => by rw [hA]; exact xor_I a b
      rw [hcmp, hsum]
      unfold sumF0
      rw [har, har, hsum3, not3, beq_self_eq_true]
    exact Prod.ext hfin rfl
end Go.Proofs.Ytnclmncdgehadaa.Wire
namespace Go.Proofs.Ytnclmncdgehadaa.Wire
set_option linter.unusedSimpArgs false
set_option linter.unusedVariables false
open Go Go.Proofs.Ytnclmncdgehadaa.Sy Go.Proofs
open Go.ChangeShapes Go.WideShapes Go.ChangeAt Go.RowKit
theorem own : ownKnob Try.prog.godebug = none := by kernel_rfl
theorem laidOut : laidOutB Try.prog = true := by kernel_rfl
mutual
theorem ub_eq {H : Type} : ∀ d : DataW H, Rows.uptoBulk d = ub d
  | .lit l => by cases l <;> simp only [Rows.uptoBulk, ub]
  | .nil => by simp only [Rows.uptoBulk, ub]
  | .ptr d => by simp only [Rows.uptoBulk, ub, ub_eq d]
  | .slice a b => by simp only [Rows.uptoBulk, ub, ubL_eq a, ubL_eq b]
  | .agg a => by simp only [Rows.uptoBulk, ub, ubL_eq a]
  | .iface _ d => by simp only [Rows.uptoBulk, ub, ub_eq d]
  | .map es => by simp only [Rows.uptoBulk, ub, ubE_eq es]
  | .held _ => by simp only [Rows.uptoBulk, ub]
theorem ubL_eq {H : Type} : ∀ d : List (DataW H), Rows.uptoBulkAll d = ubL d
  | [] => by simp only [Rows.uptoBulkAll, ubL]
  | d :: r => by simp only [Rows.uptoBulkAll, ubL, ub_eq d, ubL_eq r]
theorem ubE_eq {H : Type} : ∀ d : List (Lit × DataW H), Rows.uptoBulkEntries d = ubE d
  | [] => by simp only [Rows.uptoBulkEntries, ubE]
  | x :: r => by simp only [Rows.uptoBulkEntries, ubE, ubX_eq x, ubE_eq r]
theorem ubX_eq {H : Type} : ∀ d : Lit × DataW H, Rows.uptoBulkEntry d = ubX d
  | (l, d) => by cases l <;> simp only [Rows.uptoBulkEntry, ubX, ub_eq d]
end

theorem sum_ok : SpecsOk Try.prog [(7, sumSpec2 sumF0 fun b => b.size ≤ 1048576)] := by
  intro f s h
  simp only [specOf] at h
  split at h
  · rename_i hf
    obtain rfl := Option.some.inj h
    obtain rfl : 7 = f := Nat.eq_of_beq_eq_true hf
    refine ⟨⟨Try.f7, Try.func7, by kernel_rfl, by kernel_rfl⟩, ?_⟩
    intro w x us B hB hBw ha hp
    refine sum_runs sumF0 rfl w x us B hB hBw ha ?_
    have hp : (show ByteArray from x.1).size ≤ 1048576 := hp
    show (show ByteArray from x.1).size + 1 + 0 ≤ 4194304
    omega
  · cases h
theorem runs : SpecRuns Try.prog 3 (lawSpec [.str, .str, .str]) := lin sumF0 rfl _ rfl sum_ok

set_option maxRecDepth 100000 in
theorem lifted (os : Os) (started : os.Started) (H : Type) (enc : TypeId × Value → H) (F : Stop.Interp) :
    ReturnsInHanded {} Try.checked os 3 .any ((Rows.OpenSpec.upto Rows.wireLinearSpec).pre6 enc Try.prog Try.f3 [] false) (((Rows.OpenSpec.upto Rows.wireLinearSpec).at F).post enc Try.prog Try.f3 false true false false) := by
  refine returnsInHanded_of_cond (C := Try.checked) (s := Rows.OpenSpec.upto Rows.wireLinearSpec) (k := Rows.uptoSmall) rfl own started (by kernel_rfl) Try.func3
    (OpenSpec.witness (enc := enc) (C := Try.checked) (s := Rows.OpenSpec.upto Rows.wireLinearSpec) (k := Rows.uptoSmall) rfl false ⟨#[], #[.string ByteArray.empty, .string ByteArray.empty, .string ByteArray.empty], []⟩ 8 (by kernel_rfl) (by kernel_rfl) (by kernel_rfl)
      (x := ([.lit (.string []), .lit (.string []), .lit (.string [])], [], [])) (by kernel_rfl) rfl rfl) ?_
  intro W base args ds gs before hval hW _ hk _
  have hW' := hW
  obtain ⟨p, q, hA, hV, rfl, hfz, hnd⟩ := hW
  obtain ⟨rfl, rfl⟩ := trodVars_none hV
  have hb : ubL ds ≤ 1048576 := by
    have : Rows.uptoBulkAll (ds ++ []) ≤ 1048576 := of_decide_eq_true hk
    rw [List.append_nil, ubL_eq] at this
    exact this
  refine (law_calls (Ts := Try.f3.params.toList) runs ⟨tabOk.ty 9 _ rfl, tabOk.ty 9 _ rfl, tabOk.ty 9 _ rfl, trivial⟩ rfl (fun j t v a b => hval j t v (by simpa using a) b) hA hb).mono fun e W' ⟨he, bel⟩ => ?_
  subst he
  refine ⟨_, rfl, ?_⟩
  refine law_post (s := (Rows.OpenSpec.upto Rows.wireLinearSpec).at F) laidOut hW' hA bel (by kernel_rfl) rfl (T := 4) Try.underlying4 ?_ ?_ ?_ rfl
  all_goals
    have hl : ds.length = 3 := (trodAll_length hA).2
    match ds, hl with
    | [d1, d2, d3], _ => rfl
theorem wireLinear_holds : Rows.WireLinearUptoSaid :=
  OpenClaim.holds_of_cond 3 Try.f3 rfl rfl rfl rfl rfl rfl rfl ⟨rfl, rfl, rfl, rfl, rfl⟩ rfl rfl rfl rfl rfl (by kernel_rfl) Try.func3 (by kernel_rfl)
    (of_decide_eq_true (by kernel_rfl)) (by unfold Func.isWrapper; first | (rw [if_pos (by decide +kernel)]; kernel_rfl) | (rw [if_neg (by decide +kernel)]; exact ⟨rfl, rfl⟩))
    (fun os started H enc _ F => lifted os started H enc F)


end Go.Proofs.Ytnclmncdgehadaa.Wire
