/- Functions of the program as functions that may fail, and that the code computes them (printed). Each theorem bears its conditions itself. -/
import Derived.Test.YthjbflbcdohooaaSyf
open Go Go.Proofs.Ythjbflbcdohooaa.Sy
set_option maxHeartbeats 4000000
set_option maxRecDepth 100000
set_option cbv.maxSteps 10000000
set_option linter.unusedVariables false
set_option linter.unusedSimpArgs false
namespace Go.Proofs.Ythjbflbcdohooaa.Fl
noncomputable def view_Check (v_1 : (Int × Int × Unit)) : Option (Int) :=
  ck ((!(((decide (v_1.1 < (0 : Int))) || (decide (v_1.1 > (16777215 : Int)))) || (v_1.2.1 == (0 : Int)))) = true → 0 ≤ (6 : Int)) <|
  if ((((decide (v_1.1 < (0 : Int))) || (decide (v_1.1 > (16777215 : Int)))) || (v_1.2.1 == (0 : Int))) || ((arR .shr .u8 v_1.2.1 (6 : Int)) != (0 : Int))) = true then
    some (1 : Int)
  else
    some (0 : Int)
noncomputable def flush_New (members_1 : Int) : Option (((Int × Int × Unit) × Int × List (List Int) × Unit) × Int) :=
  letO (α := List (List Int)) (List.replicate 6 ([] : List Int)) fun t2_2 =>
  letO (α := List (List Int)) (List.replicate 6 ([] : List Int)) fun f_3 =>
  (view_Check ((0 : Int), members_1, ())).bind fun r_4 =>
  if (r_4 != (0 : Int)) = true then
    some ((((0 : Int), (0 : Int), ()), (0 : Int), List.replicate 6 ([] : List Int), ()), r_4)
  else
    some ((((0 : Int), members_1, ()), (0 : Int), f_3, ()), (0 : Int))
noncomputable def slices_Index_Lint_int_L1 (s_1 : List Int) (v_2 : Int) (t7_3 : Int) (t8_4 : Int) : Option ((Int) ⊕ ((Unit) ⊕ (Int))) :=
  if (decide (t8_4 < t7_3)) = true then
    ck (0 ≤ t8_4 ∧ t8_4 < (s_1.length : Int)) <|
    if (v_2 == (s_1.getD t8_4.toNat (0 : Int))) = true then
      some (.inr (.inr t8_4))
    else
      some (.inl (arR .add .i64 t8_4 (1 : Int)))
  else
    some (.inr (.inl ()))
noncomputable def slices_Index_Lint_int (s_1 : List Int) (v_2 : Int) : Option (Int) :=
  letO (α := Int) ((s_1.length : Int)) fun t7_3 =>
  bindE (loopO (fun x : Int => slices_Index_Lint_int_L1 s_1 v_2 t7_3 x) (0 : Int)) fun q_5 =>
  some (-1 : Int)
noncomputable def slices_Contains_Lint_int (s_1 : List Int) (v_2 : Int) : Option (Bool) :=
  (slices_Index_Lint_int s_1 v_2).bind fun r_3 =>
  some (decide (r_3 ≥ (0 : Int)))
noncomputable def flush_Check_L2 (l_5 : List Int) (t43_6 : Int) (t44_7 : Int) : Option ((Int) ⊕ ((Unit) ⊕ ((Int) ⊕ ((Unit) ⊕ (Int))))) :=
  if (decide (t44_7 < t43_6)) = true then
    ck (0 ≤ t44_7 ∧ t44_7 < (l_5.length : Int)) <|
    letO (α := Int) (l_5.getD t44_7.toNat (0 : Int)) fun m_9 =>
    ck ((!((decide (m_9 < (0 : Int))) || (decide (m_9 ≥ (30 : Int))))) = true → 0 ≤ (0 : Int) ∧ (0 : Int) ≤ t44_7 ∧ t44_7 ≤ (l_5.length : Int)) <|
    letO ((slices_Contains_Lint_int ((l_5.take t44_7.toNat).drop 0) m_9).getD false) fun r_10 =>
    ck ((!((decide (m_9 < (0 : Int))) || (decide (m_9 ≥ (30 : Int))))) = true → (slices_Contains_Lint_int ((l_5.take t44_7.toNat).drop 0) m_9).isSome = true) <|
    if (((decide (m_9 < (0 : Int))) || (decide (m_9 ≥ (30 : Int)))) || r_10) = true then
      some (.inr (.inr (.inr (.inr (4 : Int)))))
    else
      some (.inl (arR .add .i64 t44_7 (1 : Int)))
  else
    some (.inr (.inl ()))
noncomputable def flush_Check_L1 (f_1 : ((Int × Int × Unit) × Int × List (List Int) × Unit)) (t23_3 : Int) : Option ((Int) ⊕ ((Unit) ⊕ (Int))) :=
  if (decide (t23_3 < (6 : Int))) = true then
    ck (0 ≤ t23_3 ∧ t23_3 < 6) <|
    letO (α := List Int) (f_1.2.2.1.getD t23_3.toNat ([] : List Int)) fun l_5 =>
    if (decide ((l_5.length : Int) > (30 : Int))) = true then
      some (.inr (.inr (2 : Int)))
    else
      ck ((decide ((l_5.length : Int) > (0 : Int))) = true → 0 ≤ t23_3) <|
      if ((decide ((l_5.length : Int) > (0 : Int))) && ((arR .and .u8 (arR .shr .u8 f_1.1.2.1 t23_3) (1 : Int)) == (0 : Int))) = true then
        some (.inr (.inr (4 : Int)))
      else
        letO (α := Int) ((l_5.length : Int)) fun t43_6 =>
        bindE (loopO (fun x : Int => flush_Check_L2 l_5 t43_6 x) (0 : Int)) fun q_8 =>
        some (.inl (arR .add .i64 t23_3 (1 : Int)))
  else
    some (.inr (.inl ()))
noncomputable def flush_Check (f_1 : ((Int × Int × Unit) × Int × List (List Int) × Unit)) : Option (Int) :=
  (view_Check f_1.1).bind fun r_2 =>
  if (r_2 != (0 : Int)) = true then
    some r_2
  else
    if ((arR .andNot .u8 f_1.2.1 f_1.1.2.1) != (0 : Int)) = true then
      some (4 : Int)
    else
      bindE (loopO (fun x : Int => flush_Check_L1 f_1 x) (0 : Int)) fun q_4 =>
      some (0 : Int)
noncomputable def math_bits_OnesCount8 (x_1 : Int) : Option (Int) :=
  ck (0 ≤ x_1 ∧ x_1 < ((⟨#[0, 1, 1, 2, 1, 2, 2, 3, 1, 2, 2, 3, 2, 3, 3, 4, 1, 2, 2, 3, 2, 3, 3, 4, 2, 3, 3, 4, 3, 4, 4, 5, 1, 2, 2, 3, 2, 3, 3, 4, 2, 3, 3, 4, 3, 4, 4, 5, 2, 3, 3, 4, 3, 4, 4, 5, 3, 4, 4, 5, 4, 5, 5, 6, 1, 2, 2, 3, 2, 3, 3, 4, 2, 3, 3, 4, 3, 4, 4, 5, 2, 3, 3, 4, 3, 4, 4, 5, 3, 4, 4, 5, 4, 5, 5, 6, 2, 3, 3, 4, 3, 4, 4, 5, 3, 4, 4, 5, 4, 5, 5, 6, 3, 4, 4, 5, 4, 5, 5, 6, 4, 5, 5, 6, 5, 6, 6, 7, 1, 2, 2, 3, 2, 3, 3, 4, 2, 3, 3, 4, 3, 4, 4, 5, 2, 3, 3, 4, 3, 4, 4, 5, 3, 4, 4, 5, 4, 5, 5, 6, 2, 3, 3, 4, 3, 4, 4, 5, 3, 4, 4, 5, 4, 5, 5, 6, 3, 4, 4, 5, 4, 5, 5, 6, 4, 5, 5, 6, 5, 6, 6, 7, 2, 3, 3, 4, 3, 4, 4, 5, 3, 4, 4, 5, 4, 5, 5, 6, 3, 4, 4, 5, 4, 5, 5, 6, 4, 5, 5, 6, 5, 6, 6, 7, 3, 4, 4, 5, 4, 5, 5, 6, 4, 5, 5, 6, 5, 6, 6, 7, 4, 5, 5, 6, 5, 6, 6, 7, 5, 6, 6, 7, 6, 7, 7, 8]⟩ : ByteArray).size : Int)) <|
  some (IntKind.wrap .i64 (sidxO (⟨#[0, 1, 1, 2, 1, 2, 2, 3, 1, 2, 2, 3, 2, 3, 3, 4, 1, 2, 2, 3, 2, 3, 3, 4, 2, 3, 3, 4, 3, 4, 4, 5, 1, 2, 2, 3, 2, 3, 3, 4, 2, 3, 3, 4, 3, 4, 4, 5, 2, 3, 3, 4, 3, 4, 4, 5, 3, 4, 4, 5, 4, 5, 5, 6, 1, 2, 2, 3, 2, 3, 3, 4, 2, 3, 3, 4, 3, 4, 4, 5, 2, 3, 3, 4, 3, 4, 4, 5, 3, 4, 4, 5, 4, 5, 5, 6, 2, 3, 3, 4, 3, 4, 4, 5, 3, 4, 4, 5, 4, 5, 5, 6, 3, 4, 4, 5, 4, 5, 5, 6, 4, 5, 5, 6, 5, 6, 6, 7, 1, 2, 2, 3, 2, 3, 3, 4, 2, 3, 3, 4, 3, 4, 4, 5, 2, 3, 3, 4, 3, 4, 4, 5, 3, 4, 4, 5, 4, 5, 5, 6, 2, 3, 3, 4, 3, 4, 4, 5, 3, 4, 4, 5, 4, 5, 5, 6, 3, 4, 4, 5, 4, 5, 5, 6, 4, 5, 5, 6, 5, 6, 6, 7, 2, 3, 3, 4, 3, 4, 4, 5, 3, 4, 4, 5, 4, 5, 5, 6, 3, 4, 4, 5, 4, 5, 5, 6, 4, 5, 5, 6, 5, 6, 6, 7, 3, 4, 4, 5, 4, 5, 5, 6, 4, 5, 5, 6, 5, 6, 6, 7, 4, 5, 5, 6, 5, 6, 6, 7, 5, 6, 6, 7, 6, 7, 7, 8]⟩ : ByteArray) x_1))
noncomputable def view_Next (v_1 : (Int × Int × Unit)) (gone_2 : Int) (come_3 : Int) : Option ((Int × Int × Unit) × Int) :=
  (view_Check v_1).bind fun r_4 =>
  if (r_4 != (0 : Int)) = true then
    some (((0 : Int), (0 : Int), ()), r_4)
  else
    ck (0 ≤ (6 : Int)) <|
    if (((arR .shr .u8 (arR .or .u8 gone_2 come_3) (6 : Int)) != (0 : Int)) || ((arR .and .u8 gone_2 come_3) != (0 : Int))) = true then
      some (((0 : Int), (0 : Int), ()), (1 : Int))
    else
      if (v_1.1 == (16777215 : Int)) = true then
        some (((0 : Int), (0 : Int), ()), (8 : Int))
      else
        letO (α := Int) (arR .andNot .u8 v_1.2.1 gone_2) fun stay_5 =>
        (math_bits_OnesCount8 stay_5).bind fun r_6 =>
        (math_bits_OnesCount8 v_1.2.1).bind fun r_7 =>
        if (decide ((arR .mul .i64 (2 : Int) r_6) ≤ r_7)) = true then
          some (((0 : Int), (0 : Int), ()), (11 : Int))
        else
          some ((arR .add .i64 v_1.1 (1 : Int), arR .or .u8 stay_5 come_3, ()), (0 : Int))
noncomputable def flush_Change_L2 (t0_1 : ((Int × Int × Unit) × Int × List (List Int) × Unit)) (t42_9 : Int) (t13_12 : List Int) (t47_13 : Int) (t11_14 : List Bool) (t48_15 : Int) : Option ((List Bool × Int) ⊕ (List Bool)) :=
  if (decide (t48_15 < t47_13)) = true then
    ck (0 ≤ t48_15 ∧ t48_15 < (t13_12.length : Int)) <|
    letO (α := Int) (t13_12.getD t48_15.toNat (0 : Int)) fun t15_18 =>
    ck (0 ≤ t15_18 ∧ t15_18 < 30) <|
    ck ((!(t11_14.getD t15_18.toNat false)) = true → 0 ≤ t42_9) <|
    ck (0 ≤ t15_18 ∧ t15_18 < 30) <|
    letO (α := List Bool) (t11_14.set t15_18.toNat ((t11_14.getD t15_18.toNat false) || ((arR .and .u8 (arR .shr .u8 t0_1.2.1 t42_9) (1 : Int)) == (0 : Int)))) fun t11_19 =>
    some (.inl (t11_19, arR .add .i64 t48_15 (1 : Int)))
  else
    some (.inr t11_14)
noncomputable def flush_Change_L1 (t0_1 : ((Int × Int × Unit) × Int × List (List Int) × Unit)) (t11_8 : List Bool) (t42_9 : Int) : Option ((List Bool × Int) ⊕ (List Bool)) :=
  if (decide (t42_9 < (6 : Int))) = true then
    ck (0 ≤ t42_9 ∧ t42_9 < 6) <|
    letO (α := List Int) (t0_1.2.2.1.getD t42_9.toNat ([] : List Int)) fun t13_12 =>
    letO (α := Int) ((t13_12.length : Int)) fun t47_13 =>
    (loopO (fun x : List Bool × Int => flush_Change_L2 t0_1 t42_9 t13_12 t47_13 x.1 x.2) (t11_8, (0 : Int))).bind fun q_17 =>
    some (.inl (q_17, arR .add .i64 t42_9 (1 : Int)))
  else
    some (.inr t11_8)
noncomputable def flush_Change_J5 (t81_25 : Int) (t7_30 : List (List Int)) : Option ((List (List Int) × Int) ⊕ (List (List Int))) :=
  some (.inl (t7_30, arR .add .i64 t81_25 (1 : Int)))
noncomputable def flush_Change_L4 (t0_1 : ((Int × Int × Unit) × Int × List (List Int) × Unit)) (q_11 : List Bool) (t67_21 : Int) (t7_24 : List (List Int)) (t81_25 : Int) : Option ((List (List Int) × Int) ⊕ (List (List Int))) :=
  if (decide (t81_25 < (30 : Int))) = true then
    ck (0 ≤ t81_25 ∧ t81_25 < 30) <|
    letO (α := Bool) (q_11.getD t81_25.toNat false) fun t18_28 =>
    ck (t18_28 = true → 0 ≤ t67_21 ∧ t67_21 < 6) <|
    letO ((slices_Contains_Lint_int (t0_1.2.2.1.getD t67_21.toNat ([] : List Int)) t81_25).getD false) fun r_29 =>
    ck (t18_28 = true → (slices_Contains_Lint_int (t0_1.2.2.1.getD t67_21.toNat ([] : List Int)) t81_25).isSome = true) <|
    if (t18_28 && (!r_29)) = true then
      ck (0 ≤ t67_21 ∧ t67_21 < 6) <|
      ck (((t7_24.getD t67_21.toNat ([] : List Int)).length : Int) + ([t81_25].length : Int) ≤ maxL) <|
      ck (0 ≤ t67_21 ∧ t67_21 < 6) <|
      flush_Change_J5 t81_25 (t7_24.set t67_21.toNat ((t7_24.getD t67_21.toNat ([] : List Int)) ++ [t81_25]))
    else
      flush_Change_J5 t81_25 t7_24
  else
    some (.inr t7_24)
noncomputable def flush_Change_L3 (t0_1 : ((Int × Int × Unit) × Int × List (List Int) × Unit)) (q_11 : List Bool) (t7_20 : List (List Int)) (t67_21 : Int) : Option ((List (List Int) × Int) ⊕ (List (List Int))) :=
  if (decide (t67_21 < (6 : Int))) = true then
    ck (0 ≤ t67_21) <|
    if ((arR .and .u8 (arR .shr .u8 (arR .andNot .u8 t0_1.1.2.1 t0_1.2.1) t67_21) (1 : Int)) == (0 : Int)) = true then
      some (.inl (t7_20, arR .add .i64 t67_21 (1 : Int)))
    else
      (loopO (fun x : List (List Int) × Int => flush_Change_L4 t0_1 q_11 t67_21 x.1 x.2) (t7_20, (0 : Int))).bind fun q_27 =>
      some (.inl (q_27, arR .add .i64 t67_21 (1 : Int)))
  else
    some (.inr t7_20)
noncomputable def flush_Change (t0_1 : ((Int × Int × Unit) × Int × List (List Int) × Unit)) (t1_2 : Int) : Option (((Int × Int × Unit) × Int × List (List Int) × Unit) × List (List Int) × Int) :=
  letO (α := List (List Int)) (List.replicate 6 ([] : List Int)) fun t4_3 =>
  letO (α := List (List Int)) (List.replicate 6 ([] : List Int)) fun t7_4 =>
  (flush_Check t0_1).bind fun r_5 =>
  if (r_5 != (0 : Int)) = true then
    some ((((0 : Int), (0 : Int), ()), (0 : Int), List.replicate 6 ([] : List Int), ()), t7_4, r_5)
  else
    (view_Next t0_1.1 t0_1.2.1 t1_2).bind fun r_6 =>
    if (r_6.2 != (0 : Int)) = true then
      some ((((0 : Int), (0 : Int), ()), (0 : Int), List.replicate 6 ([] : List Int), ()), t7_4, r_6.2)
    else
      letO (α := List Bool) (List.replicate 30 false) fun t11_7 =>
      (loopO (fun x : List Bool × Int => flush_Change_L1 t0_1 x.1 x.2) (t11_7, (0 : Int))).bind fun q_11 =>
      (loopO (fun x : List (List Int) × Int => flush_Change_L3 t0_1 q_11 x.1 x.2) (t7_4, (0 : Int))).bind fun q_23 =>
      some ((r_6.1, (0 : Int), List.replicate 6 ([] : List Int), ()), q_23, (0 : Int))
noncomputable def FlushTrue_L3 (t0_1 : ((Int × Int × Unit) × Int × List (List Int) × Unit)) (t11_10 : Int) (t12_11 : Bool) (t46_12 : Int) : Option ((Bool × Int) ⊕ (Bool)) :=
  if (decide (t46_12 < (6 : Int))) = true then
    ck ((!t12_11) = true → 0 ≤ t46_12) <|
    ck (((arR .and .u8 (arR .shr .u8 (arR .andNot .u8 t0_1.1.2.1 t0_1.2.1) t46_12) (1 : Int)) == (1 : Int)) = true → (!t12_11) = true → 0 ≤ t46_12 ∧ t46_12 < 6) <|
    letO ((slices_Contains_Lint_int (t0_1.2.2.1.getD t46_12.toNat ([] : List Int)) t11_10).getD false) fun r_15 =>
    ck (((arR .and .u8 (arR .shr .u8 (arR .andNot .u8 t0_1.1.2.1 t0_1.2.1) t46_12) (1 : Int)) == (1 : Int)) = true → (!t12_11) = true → (slices_Contains_Lint_int (t0_1.2.2.1.getD t46_12.toNat ([] : List Int)) t11_10).isSome = true) <|
    letO (α := Bool) (t12_11 || (((arR .and .u8 (arR .shr .u8 (arR .andNot .u8 t0_1.1.2.1 t0_1.2.1) t46_12) (1 : Int)) == (1 : Int)) && r_15)) fun t12_16 =>
    some (.inl (t12_16, arR .add .i64 t46_12 (1 : Int)))
  else
    some (.inr t12_11)
noncomputable def FlushTrue_L2 (t0_1 : ((Int × Int × Unit) × Int × List (List Int) × Unit)) (r_4 : ((Int × Int × Unit) × Int × List (List Int) × Unit) × List (List Int) × Int) (t35_5 : Int) (t41_7 : Int) (t42_8 : Int) : Option ((Int) ⊕ ((Unit) ⊕ ((Int) ⊕ ((Unit) ⊕ (Bool))))) :=
  if (decide (t42_8 < t41_7)) = true then
    ck (0 ≤ t42_8 ∧ t42_8 < ((r_4.2.1.getD t35_5.toNat ([] : List Int)).length : Int)) <|
    letO (α := Int) ((r_4.2.1.getD t35_5.toNat ([] : List Int)).getD t42_8.toNat (0 : Int)) fun t11_10 =>
    (loopO (fun x : Bool × Int => FlushTrue_L3 t0_1 t11_10 x.1 x.2) (false, (0 : Int))).bind fun q_14 =>
    if (!q_14) = true then
      some (.inr (.inr (.inr (.inr false))))
    else
      some (.inl (arR .add .i64 t42_8 (1 : Int)))
  else
    some (.inr (.inl ()))
noncomputable def FlushTrue_L1 (t0_1 : ((Int × Int × Unit) × Int × List (List Int) × Unit)) (r_4 : ((Int × Int × Unit) × Int × List (List Int) × Unit) × List (List Int) × Int) (t35_5 : Int) : Option ((Int) ⊕ ((Unit) ⊕ (Bool))) :=
  if (decide (t35_5 < (6 : Int))) = true then
    ck (0 ≤ t35_5 ∧ t35_5 < 6) <|
    letO (α := Int) (((r_4.2.1.getD t35_5.toNat ([] : List Int)).length : Int)) fun t41_7 =>
    bindE (loopO (fun x : Int => FlushTrue_L2 t0_1 r_4 t35_5 t41_7 x) (0 : Int)) fun q_9 =>
    some (.inl (arR .add .i64 t35_5 (1 : Int)))
  else
    some (.inr (.inl ()))
noncomputable def FlushTrue (t0_1 : ((Int × Int × Unit) × Int × List (List Int) × Unit)) (t1_2 : Int) : Option (Bool) :=
  (flush_New (3 : Int)).bind fun r_3 =>
  if ((r_3.2 != (0 : Int)) || (r_3.1.1.2.1 != (3 : Int))) = true then
    some false
  else
    (flush_Change t0_1 t1_2).bind fun r_4 =>
    if (r_4.2.2 != (0 : Int)) = true then
      some true
    else
      bindE (loopO (fun x : Int => FlushTrue_L1 t0_1 r_4 x) (0 : Int)) fun q_6 =>
      some ((r_4.1.2.1 == (0 : Int)) && (r_4.1.1.1 == (arR .add .i64 t0_1.1.1 (1 : Int))))
noncomputable def slices_Clone_Lint_int (s_1 : List Int) : Option (List Int) :=
  nilO (s_1.length : Int) fun nil_2 =>
  if (nil_2) = true then
    some ([] : List Int)
  else
    ck ((([] : List Int).length : Int) + (s_1.length : Int) ≤ maxL) <|
    some (([] : List Int) ++ s_1)
end Go.Proofs.Ythjbflbcdohooaa.Fl
