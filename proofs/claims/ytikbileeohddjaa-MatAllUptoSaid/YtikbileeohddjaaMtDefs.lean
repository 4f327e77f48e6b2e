/- Functions of the program as functions that may fail, and that the code computes them (printed). Each theorem bears its conditions itself. -/
import Derived.Test.YtikbileeohddjaaSyf
open Go Go.Proofs.Ytikbileeohddjaa.Sy
set_option maxHeartbeats 4000000
set_option maxRecDepth 100000
set_option cbv.maxSteps 10000000
set_option linter.unusedVariables false
set_option linter.unusedSimpArgs false
namespace Go.Proofs.Ytikbileeohddjaa.Mt
def eqA6I (x y : List Int) : Bool := PT.eqb (.arr 6 (.int .i64)) x y
theorem eqA6I_iff (x y : List Int) : eqA6I x y = true ↔ x = y := eqb_iff (.arr 6 (.int .i64)) rfl x y
def eqTIIA6A6IE (x y : (Int × Int × List (List Int) × Unit)) : Bool := PT.eqb (.st [.int .i64, .int .i64, .arr 6 (.arr 6 (.int .i64))]) x y
theorem eqTIIA6A6IE_iff (x y : (Int × Int × List (List Int) × Unit)) : eqTIIA6A6IE x y = true ↔ x = y := eqb_iff (.st [.int .i64, .int .i64, .arr 6 (.arr 6 (.int .i64))]) rfl x y
noncomputable def mat_Check_L2 (t0_1 : (Int × Int × List (List Int) × Unit)) (t29_2 : Int) (t4_4 : List Int) (t34_5 : Int) : Option ((Int) ⊕ ((Unit) ⊕ ((Int) ⊕ ((Unit) ⊕ (Int))))) :=
  if (decide (t34_5 < (6 : Int))) = true then
    ck (0 ≤ t34_5 ∧ t34_5 < 6) <|
    letO (α := Int) (t4_4.getD t34_5.toNat (0 : Int)) fun t6_7 =>
    if ((decide (t6_7 < (0 : Int))) || (decide (t6_7 > (16777215 : Int)))) = true then
      some (.inr (.inr (.inr (.inr (1 : Int)))))
    else
      ck ((!((decide (t6_7 > (0 : Int))) && ((decide (t29_2 ≥ t0_1.1)) || (decide (t34_5 ≥ t0_1.1))))) = true → 0 ≤ t0_1.2.1 ∧ t0_1.2.1 < 6) <|
      ck ((!((decide (t6_7 > (0 : Int))) && ((decide (t29_2 ≥ t0_1.1)) || (decide (t34_5 ≥ t0_1.1))))) = true → 0 ≤ t34_5 ∧ t34_5 < 6) <|
      if (((decide (t6_7 > (0 : Int))) && ((decide (t29_2 ≥ t0_1.1)) || (decide (t34_5 ≥ t0_1.1)))) || (decide (t6_7 > ((t0_1.2.2.1.getD t0_1.2.1.toNat (List.replicate 6 (0 : Int))).getD t34_5.toNat (0 : Int))))) = true then
        some (.inr (.inr (.inr (.inr (4 : Int)))))
      else
        some (.inl (arR .add .i64 t34_5 (1 : Int)))
  else
    some (.inr (.inl ()))
noncomputable def mat_Check_L1 (t0_1 : (Int × Int × List (List Int) × Unit)) (t29_2 : Int) : Option ((Int) ⊕ ((Unit) ⊕ (Int))) :=
  if (decide (t29_2 < (6 : Int))) = true then
    ck (0 ≤ t29_2 ∧ t29_2 < 6) <|
    letO (α := List Int) (t0_1.2.2.1.getD t29_2.toNat (List.replicate 6 (0 : Int))) fun t4_4 =>
    bindE (loopO (fun x : Int => mat_Check_L2 t0_1 t29_2 t4_4 x) (0 : Int)) fun q_6 =>
    some (.inl (arR .add .i64 t29_2 (1 : Int)))
  else
    some (.inr (.inl ()))
noncomputable def mat_Check (t0_1 : (Int × Int × List (List Int) × Unit)) : Option (Int) :=
  if ((((decide (t0_1.1 < (1 : Int))) || (decide (t0_1.1 > (6 : Int)))) || (decide (t0_1.2.1 < (0 : Int)))) || (decide (t0_1.2.1 ≥ t0_1.1))) = true then
    some (1 : Int)
  else
    bindE (loopO (fun x : Int => mat_Check_L1 t0_1 x) (0 : Int)) fun q_3 =>
    some (0 : Int)
noncomputable def mat_New (n_1 : Int) (me_2 : Int) : Option ((Int × Int × List (List Int) × Unit) × Int) :=
  letO (α := List (List Int)) (List.replicate 6 (List.replicate 6 (0 : Int))) fun t4_3 =>
  letO (α := List (List Int)) (List.replicate 6 (List.replicate 6 (0 : Int))) fun m_4 =>
  (mat_Check (n_1, me_2, m_4, ())).bind fun r_5 =>
  if (r_5 != (0 : Int)) = true then
    some (((0 : Int), (0 : Int), List.replicate 6 (List.replicate 6 (0 : Int)), ()), r_5)
  else
    some ((n_1, me_2, m_4, ()), (0 : Int))
noncomputable def mat_Did (m_1 : (Int × Int × List (List Int) × Unit)) : Option ((Int × Int × List (List Int) × Unit) × Int) :=
  letO (α := List (List Int)) (List.replicate 6 (List.replicate 6 (0 : Int))) fun t2_2 =>
  (mat_Check m_1).bind fun r_3 =>
  if (r_3 != (0 : Int)) = true then
    some (((0 : Int), (0 : Int), List.replicate 6 (List.replicate 6 (0 : Int)), ()), r_3)
  else
    ck (0 ≤ m_1.2.1 ∧ m_1.2.1 < 6) <|
    ck (0 ≤ m_1.2.1 ∧ m_1.2.1 < 6) <|
    if (((m_1.2.2.1.getD m_1.2.1.toNat (List.replicate 6 (0 : Int))).getD m_1.2.1.toNat (0 : Int)) == (16777215 : Int)) = true then
      some (((0 : Int), (0 : Int), List.replicate 6 (List.replicate 6 (0 : Int)), ()), (8 : Int))
    else
      ck (0 ≤ m_1.2.1 ∧ m_1.2.1 < 6) <|
      ck (0 ≤ m_1.2.1 ∧ m_1.2.1 < 6) <|
      ck (0 ≤ m_1.2.1 ∧ m_1.2.1 < 6) <|
      ck (0 ≤ m_1.2.1 ∧ m_1.2.1 < 6) <|
      letO (α := List (List Int)) (m_1.2.2.1.set m_1.2.1.toNat ((m_1.2.2.1.getD m_1.2.1.toNat (List.replicate 6 (0 : Int))).set m_1.2.1.toNat (arR .add .i64 ((m_1.2.2.1.getD m_1.2.1.toNat (List.replicate 6 (0 : Int))).getD m_1.2.1.toNat (0 : Int)) (1 : Int)))) fun m_4 =>
      some ((m_1.1, m_1.2.1, m_4, ()), (0 : Int))
noncomputable def vect_Min_L1 (b_2 : List Int) (a_4 : List Int) (t6_5 : Int) : Option ((List Int × Int) ⊕ (List Int)) :=
  if (decide (t6_5 < (6 : Int))) = true then
    ck (0 ≤ t6_5 ∧ t6_5 < 6) <|
    ck (0 ≤ t6_5 ∧ t6_5 < 6) <|
    ck (0 ≤ t6_5 ∧ t6_5 < 6) <|
    letO (α := List Int) (a_4.set t6_5.toNat (mnI (a_4.getD t6_5.toNat (0 : Int)) (b_2.getD t6_5.toNat (0 : Int)))) fun a_8 =>
    some (.inl (a_8, arR .add .i64 t6_5 (1 : Int)))
  else
    some (.inr a_4)
noncomputable def vect_Min (a_1 : List Int) (b_2 : List Int) : Option (List Int) :=
  letO (α := List Int) (List.replicate 6 (0 : Int)) fun t4_3 =>
  (loopO (fun x : List Int × Int => vect_Min_L1 b_2 x.1 x.2) (a_1, (0 : Int))).bind fun q_7 =>
  some q_7
noncomputable def mat_Firm_L1 (m_1 : (Int × Int × List (List Int) × Unit)) (out_5 : List Int) (t20_6 : Int) : Option ((List Int × Int) ⊕ (List Int)) :=
  if (decide (t20_6 < m_1.1)) = true then
    ck (0 ≤ t20_6 ∧ t20_6 < 6) <|
    (vect_Min out_5 (m_1.2.2.1.getD t20_6.toNat (List.replicate 6 (0 : Int)))).bind fun r_9 =>
    some (.inl (r_9, arR .add .i64 t20_6 (1 : Int)))
  else
    some (.inr out_5)
noncomputable def mat_Firm (m_1 : (Int × Int × List (List Int) × Unit)) : Option (List Int × Int) :=
  letO (α := List Int) (List.replicate 6 (0 : Int)) fun t2_2 =>
  (mat_Check m_1).bind fun r_3 =>
  if (r_3 != (0 : Int)) = true then
    some ([(0 : Int), (0 : Int), (0 : Int), (0 : Int), (0 : Int), (0 : Int)], r_3)
  else
    ck (0 ≤ m_1.2.1 ∧ m_1.2.1 < 6) <|
    letO (α := List Int) (m_1.2.2.1.getD m_1.2.1.toNat (List.replicate 6 (0 : Int))) fun out_4 =>
    (loopO (fun x : List Int × Int => mat_Firm_L1 m_1 x.1 x.2) (out_4, (0 : Int))).bind fun q_8 =>
    some (q_8, (0 : Int))
noncomputable def vect_Within_L1 (a_1 : List Int) (b_2 : List Int) (t6_3 : Int) : Option ((Int) ⊕ ((Unit) ⊕ (Bool))) :=
  if (decide (t6_3 < (6 : Int))) = true then
    ck (0 ≤ t6_3 ∧ t6_3 < 6) <|
    ck (0 ≤ t6_3 ∧ t6_3 < 6) <|
    if (decide ((a_1.getD t6_3.toNat (0 : Int)) > (b_2.getD t6_3.toNat (0 : Int)))) = true then
      some (.inr (.inr false))
    else
      some (.inl (arR .add .i64 t6_3 (1 : Int)))
  else
    some (.inr (.inl ()))
noncomputable def vect_Within (a_1 : List Int) (b_2 : List Int) : Option (Bool) :=
  bindE (loopO (fun x : Int => vect_Within_L1 a_1 b_2 x) (0 : Int)) fun q_4 =>
  some true
noncomputable def MatFirm_L1 (t0_1 : (Int × Int × List (List Int) × Unit)) (r_5 : List Int × Int) (t50_6 : Int) : Option ((Int) ⊕ ((Unit) ⊕ (Bool))) :=
  if (decide (t50_6 < t0_1.1)) = true then
    ck (0 ≤ t50_6 ∧ t50_6 < 6) <|
    (vect_Within r_5.1 (t0_1.2.2.1.getD t50_6.toNat (List.replicate 6 (0 : Int)))).bind fun r_8 =>
    if (!r_8) = true then
      some (.inr (.inr false))
    else
      some (.inl (arR .add .i64 t50_6 (1 : Int)))
  else
    some (.inr (.inl ()))
noncomputable def MatFirm (t0_1 : (Int × Int × List (List Int) × Unit)) : Option (Bool) :=
  (mat_New (1 : Int) (0 : Int)).bind fun r_2 =>
  if (r_2.2 != (0 : Int)) = true then
    some false
  else
    (mat_Did r_2.1).bind fun r_3 =>
    if (r_3.2 != (0 : Int)) = true then
      some false
    else
      (mat_Firm r_3.1).bind fun r_4 =>
      if ((r_4.2 != (0 : Int)) || (!(eqA6I r_4.1 [(1 : Int), (0 : Int), (0 : Int), (0 : Int), (0 : Int), (0 : Int)]))) = true then
        some false
      else
        (mat_Firm t0_1).bind fun r_5 =>
        if (r_5.2 != (0 : Int)) = true then
          some (eqA6I r_5.1 [(0 : Int), (0 : Int), (0 : Int), (0 : Int), (0 : Int), (0 : Int)])
        else
          bindE (loopO (fun x : Int => MatFirm_L1 t0_1 r_5 x) (0 : Int)) fun q_7 =>
          (mat_Did t0_1).bind fun r_9 =>
          (mat_Firm r_9.1).bind fun r_10 =>
          some ((r_9.2 != (0 : Int)) || ((r_10.2 == (0 : Int)) && ((t0_1.1 == (1 : Int)) || (eqA6I r_10.1 r_5.1))))
noncomputable def R_Rest (a_1 : Int) (n_2 : Int) : Option (Int) :=
  if (decide (n_2 ≤ (0 : Int))) = true then
    some (0 : Int)
  else
    ck (n_2 ≠ 0) <|
    ck (n_2 ≠ 0) <|
    some (arR .rem .i64 (arR .add .i64 (arR .rem .i64 a_1 n_2) n_2) n_2)
noncomputable def vect_Max_L1 (b_2 : List Int) (a_4 : List Int) (t6_5 : Int) : Option ((List Int × Int) ⊕ (List Int)) :=
  if (decide (t6_5 < (6 : Int))) = true then
    ck (0 ≤ t6_5 ∧ t6_5 < 6) <|
    ck (0 ≤ t6_5 ∧ t6_5 < 6) <|
    ck (0 ≤ t6_5 ∧ t6_5 < 6) <|
    letO (α := List Int) (a_4.set t6_5.toNat (mxI (a_4.getD t6_5.toNat (0 : Int)) (b_2.getD t6_5.toNat (0 : Int)))) fun a_8 =>
    some (.inl (a_8, arR .add .i64 t6_5 (1 : Int)))
  else
    some (.inr a_4)
noncomputable def vect_Max (a_1 : List Int) (b_2 : List Int) : Option (List Int) :=
  letO (α := List Int) (List.replicate 6 (0 : Int)) fun t4_3 =>
  (loopO (fun x : List Int × Int => vect_Max_L1 b_2 x.1 x.2) (a_1, (0 : Int))).bind fun q_7 =>
  some q_7
noncomputable def mat_Meet_L1 (t1_2 : (Int × Int × List (List Int) × Unit)) (t2_6 : List (List Int)) (t34_7 : Int) : Option ((List (List Int) × Int) ⊕ (List (List Int))) :=
  if (decide (t34_7 < (6 : Int))) = true then
    ck (0 ≤ t34_7 ∧ t34_7 < 6) <|
    ck (0 ≤ t34_7 ∧ t34_7 < 6) <|
    (vect_Max (t2_6.getD t34_7.toNat (List.replicate 6 (0 : Int))) (t1_2.2.2.1.getD t34_7.toNat (List.replicate 6 (0 : Int)))).bind fun r_10 =>
    ck (0 ≤ t34_7 ∧ t34_7 < 6) <|
    letO (α := List (List Int)) (t2_6.set t34_7.toNat r_10) fun t2_11 =>
    some (.inl (t2_11, arR .add .i64 t34_7 (1 : Int)))
  else
    some (.inr t2_6)
noncomputable def mat_Meet (t0_1 : (Int × Int × List (List Int) × Unit)) (t1_2 : (Int × Int × List (List Int) × Unit)) : Option ((Int × Int × List (List Int) × Unit) × Int) :=
  letO (α := List (List Int)) (List.replicate 6 (List.replicate 6 (0 : Int))) fun t4_3 =>
  (mat_Check t0_1).bind fun r_4 =>
  if (r_4 != (0 : Int)) = true then
    some (((0 : Int), (0 : Int), List.replicate 6 (List.replicate 6 (0 : Int)), ()), r_4)
  else
    (mat_Check t1_2).bind fun r_5 =>
    if (r_5 != (0 : Int)) = true then
      some (((0 : Int), (0 : Int), List.replicate 6 (List.replicate 6 (0 : Int)), ()), r_5)
    else
      if ((t1_2.1 != t0_1.1) || (t1_2.2.1 == t0_1.2.1)) = true then
        some (((0 : Int), (0 : Int), List.replicate 6 (List.replicate 6 (0 : Int)), ()), (1 : Int))
      else
        (loopO (fun x : List (List Int) × Int => mat_Meet_L1 t1_2 x.1 x.2) (t0_1.2.2.1, (0 : Int))).bind fun q_9 =>
        ck (0 ≤ t0_1.2.1 ∧ t0_1.2.1 < 6) <|
        ck (0 ≤ t1_2.2.1 ∧ t1_2.2.1 < 6) <|
        (vect_Max (q_9.getD t0_1.2.1.toNat (List.replicate 6 (0 : Int))) (t1_2.2.2.1.getD t1_2.2.1.toNat (List.replicate 6 (0 : Int)))).bind fun r_12 =>
        ck (0 ≤ t0_1.2.1 ∧ t0_1.2.1 < 6) <|
        letO (α := List (List Int)) (q_9.set t0_1.2.1.toNat r_12) fun t2_13 =>
        some ((t0_1.1, t0_1.2.1, t2_13, ()), (0 : Int))
noncomputable def knowing_L1 (t0_1 : Int) (t8_5 : List ((Int × Int × List (List Int) × Unit))) (t10_6 : List (List Int)) (t28_7 : Int) : Option ((List ((Int × Int × List (List Int) × Unit)) × List (List Int) × Int) ⊕ ((List ((Int × Int × List (List Int) × Unit)) × List (List Int)) ⊕ (List ((Int × Int × List (List Int) × Unit)) × List Int × List (List Int) × Bool))) :=
  if (decide (t28_7 < t0_1)) = true then
    (mat_New t0_1 t28_7).bind fun r_11 =>
    if ((r_11.2 != (0 : Int)) || (r_11.1.1 != t0_1)) = true then
      some (.inr (.inr (([] : List ((Int × Int × List (List Int) × Unit))), ([] : List Int), ([] : List (List Int)), false)))
    else
      ck ((t8_5.length : Int) + ([r_11.1].length : Int) ≤ maxL) <|
      letO (α := List ((Int × Int × List (List Int) × Unit))) (t8_5 ++ [r_11.1]) fun t8_12 =>
      ck (0 ≤ (0 : Int) ∧ (0 : Int) ≤ t0_1 ∧ t0_1 ≤ t0_1) <|
      ck (t0_1 ≤ maxL) <|
      ck (0 ≤ t28_7 ∧ t28_7 < (t10_6.length : Int)) <|
      letO (α := List (List Int)) (t10_6.set t28_7.toNat (List.replicate t0_1.toNat (0 : Int))) fun t10_13 =>
      some (.inl (t8_12, t10_13, arR .add .i64 t28_7 (1 : Int)))
  else
    some (.inr (.inl (t8_5, t10_6)))
noncomputable def knowing_J3 (t57_18 : Int) (t8_26 : List ((Int × Int × List (List Int) × Unit))) (t9_27 : List Int) (t10_28 : List (List Int)) : Option ((List ((Int × Int × List (List Int) × Unit)) × List Int × List (List Int) × Int) ⊕ ((List ((Int × Int × List (List Int) × Unit)) × List Int × List (List Int)) ⊕ (List ((Int × Int × List (List Int) × Unit)) × List Int × List (List Int) × Bool))) :=
  some (.inl (t8_26, t9_27, t10_28, arR .add .i64 t57_18 (1 : Int)))
noncomputable def knowing_L4 (t0_1 : Int) (r_24 : Int) (r_25 : Int) (t10_34 : List (List Int)) (t125_35 : Int) : Option ((List (List Int) × Int) ⊕ (List (List Int))) :=
  if (decide (t125_35 < t0_1)) = true then
    ck (0 ≤ r_24 ∧ r_24 < (t10_34.length : Int)) <|
    ck (0 ≤ r_24 ∧ r_24 < (t10_34.length : Int)) <|
    ck (0 ≤ t125_35 ∧ t125_35 < ((t10_34.getD r_24.toNat ([] : List Int)).length : Int)) <|
    ck (0 ≤ r_25 ∧ r_25 < (t10_34.length : Int)) <|
    ck (0 ≤ t125_35 ∧ t125_35 < ((t10_34.getD r_25.toNat ([] : List Int)).length : Int)) <|
    ck (0 ≤ t125_35 ∧ t125_35 < ((t10_34.getD r_24.toNat ([] : List Int)).length : Int)) <|
    letO (α := List (List Int)) (t10_34.set r_24.toNat ((t10_34.getD r_24.toNat ([] : List Int)).set t125_35.toNat (mxI ((t10_34.getD r_24.toNat ([] : List Int)).getD t125_35.toNat (0 : Int)) ((t10_34.getD r_25.toNat ([] : List Int)).getD t125_35.toNat (0 : Int))))) fun t10_38 =>
    some (.inl (t10_38, arR .add .i64 t125_35 (1 : Int)))
  else
    some (.inr t10_34)
noncomputable def knowing_L2 (t0_1 : Int) (t1_2 : List ((Int × Int × Int × Unit))) (t56_14 : Int) (t8_15 : List ((Int × Int × List (List Int) × Unit))) (t9_16 : List Int) (t10_17 : List (List Int)) (t57_18 : Int) : Option ((List ((Int × Int × List (List Int) × Unit)) × List Int × List (List Int) × Int) ⊕ ((List ((Int × Int × List (List Int) × Unit)) × List Int × List (List Int)) ⊕ (List ((Int × Int × List (List Int) × Unit)) × List Int × List (List Int) × Bool))) :=
  if (decide (t57_18 < t56_14)) = true then
    ck (0 ≤ t57_18 ∧ t57_18 < (t1_2.length : Int)) <|
    letO (α := (Int × Int × Int × Unit)) (t1_2.getD t57_18.toNat ((0 : Int), (0 : Int), (0 : Int), ())) fun t15_23 =>
    (R_Rest t15_23.2.1 t0_1).bind fun r_24 =>
    (R_Rest t15_23.2.2.1 t0_1).bind fun r_25 =>
    if (t15_23.1 == (0 : Int)) = true then
      ck (0 ≤ r_24 ∧ r_24 < (t8_15.length : Int)) <|
      (mat_Did (t8_15.getD r_24.toNat ((0 : Int), (0 : Int), List.replicate 6 (List.replicate 6 (0 : Int)), ()))).bind fun r_29 =>
      if (r_29.2 == (8 : Int)) = true then
        some (.inl (t8_15, t9_16, t10_17, arR .add .i64 t57_18 (1 : Int)))
      else
        if (r_29.2 != (0 : Int)) = true then
          some (.inr (.inr (([] : List ((Int × Int × List (List Int) × Unit))), ([] : List Int), ([] : List (List Int)), false)))
        else
          ck (0 ≤ r_24 ∧ r_24 < (t8_15.length : Int)) <|
          letO (α := List ((Int × Int × List (List Int) × Unit))) (t8_15.set r_24.toNat r_29.1) fun t8_30 =>
          ck (0 ≤ r_24 ∧ r_24 < (t9_16.length : Int)) <|
          ck (0 ≤ r_24 ∧ r_24 < (t9_16.length : Int)) <|
          letO (α := List Int) (t9_16.set r_24.toNat (arR .add .i64 (t9_16.getD r_24.toNat (0 : Int)) (1 : Int))) fun t9_31 =>
          ck (0 ≤ r_24 ∧ r_24 < (t10_17.length : Int)) <|
          ck (0 ≤ r_24 ∧ r_24 < ((t10_17.getD r_24.toNat ([] : List Int)).length : Int)) <|
          ck (0 ≤ r_24 ∧ r_24 < ((t10_17.getD r_24.toNat ([] : List Int)).length : Int)) <|
          knowing_J3 t57_18 t8_30 t9_31 (t10_17.set r_24.toNat ((t10_17.getD r_24.toNat ([] : List Int)).set r_24.toNat (arR .add .i64 ((t10_17.getD r_24.toNat ([] : List Int)).getD r_24.toNat (0 : Int)) (1 : Int))))
    else
      if (r_24 != r_25) = true then
        ck (0 ≤ r_24 ∧ r_24 < (t8_15.length : Int)) <|
        ck (0 ≤ r_25 ∧ r_25 < (t8_15.length : Int)) <|
        (mat_Meet (t8_15.getD r_24.toNat ((0 : Int), (0 : Int), List.replicate 6 (List.replicate 6 (0 : Int)), ())) (t8_15.getD r_25.toNat ((0 : Int), (0 : Int), List.replicate 6 (List.replicate 6 (0 : Int)), ()))).bind fun r_32 =>
        if (r_32.2 != (0 : Int)) = true then
          some (.inr (.inr (([] : List ((Int × Int × List (List Int) × Unit))), ([] : List Int), ([] : List (List Int)), false)))
        else
          ck (0 ≤ r_24 ∧ r_24 < (t8_15.length : Int)) <|
          letO (α := List ((Int × Int × List (List Int) × Unit))) (t8_15.set r_24.toNat r_32.1) fun t8_33 =>
          (loopO (fun x : List (List Int) × Int => knowing_L4 t0_1 r_24 r_25 x.1 x.2) (t10_17, (0 : Int))).bind fun q_37 =>
          knowing_J3 t57_18 t8_33 t9_16 q_37
      else
        knowing_J3 t57_18 t8_15 t9_16 t10_17
  else
    some (.inr (.inl (t8_15, t9_16, t10_17)))
noncomputable def knowing (t0_1 : Int) (t1_2 : List ((Int × Int × Int × Unit))) : Option (List ((Int × Int × List (List Int) × Unit)) × List Int × List (List Int) × Bool) :=
  ck (0 ≤ (0 : Int) ∧ (0 : Int) ≤ t0_1 ∧ t0_1 ≤ t0_1) <|
  ck (t0_1 ≤ maxL) <|
  letO (α := List Int) (List.replicate t0_1.toNat (0 : Int)) fun t9_3 =>
  ck (0 ≤ (0 : Int) ∧ (0 : Int) ≤ t0_1 ∧ t0_1 ≤ t0_1) <|
  ck (t0_1 ≤ maxL) <|
  letO (α := List (List Int)) (List.replicate t0_1.toNat ([] : List Int)) fun t10_4 =>
  bindE (loopO (fun x : List ((Int × Int × List (List Int) × Unit)) × List (List Int) × Int => knowing_L1 t0_1 x.1 x.2.1 x.2.2) (([] : List ((Int × Int × List (List Int) × Unit))), t10_4, (0 : Int))) fun q_10 =>
  letO (α := Int) ((t1_2.length : Int)) fun t56_14 =>
  bindE (loopO (fun x : List ((Int × Int × List (List Int) × Unit)) × List Int × List (List Int) × Int => knowing_L2 t0_1 t1_2 t56_14 x.1 x.2.1 x.2.2.1 x.2.2.2) (q_10.1, t9_3, q_10.2, (0 : Int))) fun q_22 =>
  some (q_22.1, q_22.2.1, q_22.2.2, true)
noncomputable def few (n_1 : Int) : Option (Int) :=
  (R_Rest n_1 (6 : Int)).bind fun r_2 =>
  some (arR .add .i64 r_2 (1 : Int))
noncomputable def MatTrue_L3 (r_4 : Int) (r_5 : List ((Int × Int × List (List Int) × Unit)) × List Int × List (List Int) × Bool) (t63_7 : Int) (t14_9 : (Int × Int × List (List Int) × Unit)) (r_10 : List Int × Int) (t81_12 : Int) (t85_14 : Int) : Option ((Int) ⊕ ((Unit) ⊕ ((Int) ⊕ ((Unit) ⊕ ((Int) ⊕ ((Unit) ⊕ (Bool))))))) :=
  if (decide (t85_14 < r_4)) = true then
    ck (0 ≤ t85_14 ∧ t85_14 < 6) <|
    ck (0 ≤ t81_12 ∧ t81_12 < (r_5.2.2.1.length : Int)) <|
    ck (0 ≤ t85_14 ∧ t85_14 < ((r_5.2.2.1.getD t81_12.toNat ([] : List Int)).length : Int)) <|
    ck ((!(decide ((r_10.1.getD t85_14.toNat (0 : Int)) > ((r_5.2.2.1.getD t81_12.toNat ([] : List Int)).getD t85_14.toNat (0 : Int))))) = true → 0 ≤ t81_12 ∧ t81_12 < 6) <|
    ck ((!(decide ((r_10.1.getD t85_14.toNat (0 : Int)) > ((r_5.2.2.1.getD t81_12.toNat ([] : List Int)).getD t85_14.toNat (0 : Int))))) = true → 0 ≤ t85_14 ∧ t85_14 < 6) <|
    ck ((!(decide ((r_10.1.getD t85_14.toNat (0 : Int)) > ((r_5.2.2.1.getD t81_12.toNat ([] : List Int)).getD t85_14.toNat (0 : Int))))) = true → 0 ≤ t81_12 ∧ t81_12 < (r_5.2.2.1.length : Int)) <|
    ck ((!(decide ((r_10.1.getD t85_14.toNat (0 : Int)) > ((r_5.2.2.1.getD t81_12.toNat ([] : List Int)).getD t85_14.toNat (0 : Int))))) = true → 0 ≤ t85_14 ∧ t85_14 < ((r_5.2.2.1.getD t81_12.toNat ([] : List Int)).length : Int)) <|
    ck ((!((decide ((r_10.1.getD t85_14.toNat (0 : Int)) > ((r_5.2.2.1.getD t81_12.toNat ([] : List Int)).getD t85_14.toNat (0 : Int)))) || (decide (((t14_9.2.2.1.getD t81_12.toNat (List.replicate 6 (0 : Int))).getD t85_14.toNat (0 : Int)) > ((r_5.2.2.1.getD t81_12.toNat ([] : List Int)).getD t85_14.toNat (0 : Int)))))) = true → 0 ≤ t63_7 ∧ t63_7 < 6) <|
    ck ((!((decide ((r_10.1.getD t85_14.toNat (0 : Int)) > ((r_5.2.2.1.getD t81_12.toNat ([] : List Int)).getD t85_14.toNat (0 : Int)))) || (decide (((t14_9.2.2.1.getD t81_12.toNat (List.replicate 6 (0 : Int))).getD t85_14.toNat (0 : Int)) > ((r_5.2.2.1.getD t81_12.toNat ([] : List Int)).getD t85_14.toNat (0 : Int)))))) = true → 0 ≤ t85_14 ∧ t85_14 < 6) <|
    ck ((!((decide ((r_10.1.getD t85_14.toNat (0 : Int)) > ((r_5.2.2.1.getD t81_12.toNat ([] : List Int)).getD t85_14.toNat (0 : Int)))) || (decide (((t14_9.2.2.1.getD t81_12.toNat (List.replicate 6 (0 : Int))).getD t85_14.toNat (0 : Int)) > ((r_5.2.2.1.getD t81_12.toNat ([] : List Int)).getD t85_14.toNat (0 : Int)))))) = true → 0 ≤ t63_7 ∧ t63_7 < (r_5.2.2.1.length : Int)) <|
    ck ((!((decide ((r_10.1.getD t85_14.toNat (0 : Int)) > ((r_5.2.2.1.getD t81_12.toNat ([] : List Int)).getD t85_14.toNat (0 : Int)))) || (decide (((t14_9.2.2.1.getD t81_12.toNat (List.replicate 6 (0 : Int))).getD t85_14.toNat (0 : Int)) > ((r_5.2.2.1.getD t81_12.toNat ([] : List Int)).getD t85_14.toNat (0 : Int)))))) = true → 0 ≤ t85_14 ∧ t85_14 < ((r_5.2.2.1.getD t63_7.toNat ([] : List Int)).length : Int)) <|
    ck ((!(((decide ((r_10.1.getD t85_14.toNat (0 : Int)) > ((r_5.2.2.1.getD t81_12.toNat ([] : List Int)).getD t85_14.toNat (0 : Int)))) || (decide (((t14_9.2.2.1.getD t81_12.toNat (List.replicate 6 (0 : Int))).getD t85_14.toNat (0 : Int)) > ((r_5.2.2.1.getD t81_12.toNat ([] : List Int)).getD t85_14.toNat (0 : Int))))) || (((t14_9.2.2.1.getD t63_7.toNat (List.replicate 6 (0 : Int))).getD t85_14.toNat (0 : Int)) != ((r_5.2.2.1.getD t63_7.toNat ([] : List Int)).getD t85_14.toNat (0 : Int))))) = true → 0 ≤ t63_7 ∧ t63_7 < (r_5.2.2.1.length : Int)) <|
    ck ((!(((decide ((r_10.1.getD t85_14.toNat (0 : Int)) > ((r_5.2.2.1.getD t81_12.toNat ([] : List Int)).getD t85_14.toNat (0 : Int)))) || (decide (((t14_9.2.2.1.getD t81_12.toNat (List.replicate 6 (0 : Int))).getD t85_14.toNat (0 : Int)) > ((r_5.2.2.1.getD t81_12.toNat ([] : List Int)).getD t85_14.toNat (0 : Int))))) || (((t14_9.2.2.1.getD t63_7.toNat (List.replicate 6 (0 : Int))).getD t85_14.toNat (0 : Int)) != ((r_5.2.2.1.getD t63_7.toNat ([] : List Int)).getD t85_14.toNat (0 : Int))))) = true → 0 ≤ t85_14 ∧ t85_14 < ((r_5.2.2.1.getD t63_7.toNat ([] : List Int)).length : Int)) <|
    ck ((!(((decide ((r_10.1.getD t85_14.toNat (0 : Int)) > ((r_5.2.2.1.getD t81_12.toNat ([] : List Int)).getD t85_14.toNat (0 : Int)))) || (decide (((t14_9.2.2.1.getD t81_12.toNat (List.replicate 6 (0 : Int))).getD t85_14.toNat (0 : Int)) > ((r_5.2.2.1.getD t81_12.toNat ([] : List Int)).getD t85_14.toNat (0 : Int))))) || (((t14_9.2.2.1.getD t63_7.toNat (List.replicate 6 (0 : Int))).getD t85_14.toNat (0 : Int)) != ((r_5.2.2.1.getD t63_7.toNat ([] : List Int)).getD t85_14.toNat (0 : Int))))) = true → 0 ≤ t85_14 ∧ t85_14 < (r_5.2.1.length : Int)) <|
    if ((((decide ((r_10.1.getD t85_14.toNat (0 : Int)) > ((r_5.2.2.1.getD t81_12.toNat ([] : List Int)).getD t85_14.toNat (0 : Int)))) || (decide (((t14_9.2.2.1.getD t81_12.toNat (List.replicate 6 (0 : Int))).getD t85_14.toNat (0 : Int)) > ((r_5.2.2.1.getD t81_12.toNat ([] : List Int)).getD t85_14.toNat (0 : Int))))) || (((t14_9.2.2.1.getD t63_7.toNat (List.replicate 6 (0 : Int))).getD t85_14.toNat (0 : Int)) != ((r_5.2.2.1.getD t63_7.toNat ([] : List Int)).getD t85_14.toNat (0 : Int)))) || (decide (((r_5.2.2.1.getD t63_7.toNat ([] : List Int)).getD t85_14.toNat (0 : Int)) > (r_5.2.1.getD t85_14.toNat (0 : Int))))) = true then
      some (.inr (.inr (.inr (.inr (.inr (.inr false))))))
    else
      some (.inl (arR .add .i64 t85_14 (1 : Int)))
  else
    some (.inr (.inl ()))
noncomputable def MatTrue_L2 (r_4 : Int) (r_5 : List ((Int × Int × List (List Int) × Unit)) × List Int × List (List Int) × Bool) (t63_7 : Int) (t14_9 : (Int × Int × List (List Int) × Unit)) (r_10 : List Int × Int) (t81_12 : Int) : Option ((Int) ⊕ ((Unit) ⊕ ((Int) ⊕ ((Unit) ⊕ (Bool))))) :=
  if (decide (t81_12 < r_4)) = true then
    bindE (loopO (fun x : Int => MatTrue_L3 r_4 r_5 t63_7 t14_9 r_10 t81_12 x) (0 : Int)) fun q_15 =>
    some (.inl (arR .add .i64 t81_12 (1 : Int)))
  else
    some (.inr (.inl ()))
noncomputable def MatTrue_L1 (r_4 : Int) (r_5 : List ((Int × Int × List (List Int) × Unit)) × List Int × List (List Int) × Bool) (t62_6 : Int) (t63_7 : Int) : Option ((Int) ⊕ ((Unit) ⊕ (Bool))) :=
  if (decide (t63_7 < t62_6)) = true then
    ck (0 ≤ t63_7 ∧ t63_7 < (r_5.1.length : Int)) <|
    letO (α := (Int × Int × List (List Int) × Unit)) (r_5.1.getD t63_7.toNat ((0 : Int), (0 : Int), List.replicate 6 (List.replicate 6 (0 : Int)), ())) fun t14_9 =>
    (mat_Firm t14_9).bind fun r_10 =>
    letO ((mat_Check t14_9).getD (0 : Int)) fun r_11 =>
    ck ((!(r_10.2 != (0 : Int))) = true → (mat_Check t14_9).isSome = true) <|
    if ((r_10.2 != (0 : Int)) || (r_11 != (0 : Int))) = true then
      some (.inr (.inr false))
    else
      bindE (loopO (fun x : Int => MatTrue_L2 r_4 r_5 t63_7 t14_9 r_10 x) (0 : Int)) fun q_13 =>
      some (.inl (arR .add .i64 t63_7 (1 : Int)))
  else
    some (.inr (.inl ()))
noncomputable def MatTrue (t0_1 : Int) (t1_2 : List ((Int × Int × Int × Unit))) : Option (Bool) :=
  (knowing (2 : Int) [((0 : Int), (0 : Int), (0 : Int), ()), ((1 : Int), (1 : Int), (0 : Int), ()), ((1 : Int), (0 : Int), (1 : Int), ())]).bind fun r_3 =>
  ck ((!(!r_3.2.2.2)) = true → 0 ≤ (0 : Int) ∧ (0 : Int) < (r_3.1.length : Int)) <|
  ck ((!(!r_3.2.2.2)) = true → 0 ≤ (1 : Int) ∧ (1 : Int) < 6) <|
  ck ((!(!r_3.2.2.2)) = true → 0 ≤ (0 : Int) ∧ (0 : Int) < 6) <|
  ck ((!((!r_3.2.2.2) || (((((r_3.1.getD 0 ((0 : Int), (0 : Int), List.replicate 6 (List.replicate 6 (0 : Int)), ())).2.2.1).getD 1 (List.replicate 6 (0 : Int))).getD 0 (0 : Int)) != (1 : Int)))) = true → 0 ≤ (1 : Int) ∧ (1 : Int) < (r_3.1.length : Int)) <|
  ck ((!((!r_3.2.2.2) || (((((r_3.1.getD 0 ((0 : Int), (0 : Int), List.replicate 6 (List.replicate 6 (0 : Int)), ())).2.2.1).getD 1 (List.replicate 6 (0 : Int))).getD 0 (0 : Int)) != (1 : Int)))) = true → 0 ≤ (1 : Int) ∧ (1 : Int) < 6) <|
  ck ((!((!r_3.2.2.2) || (((((r_3.1.getD 0 ((0 : Int), (0 : Int), List.replicate 6 (List.replicate 6 (0 : Int)), ())).2.2.1).getD 1 (List.replicate 6 (0 : Int))).getD 0 (0 : Int)) != (1 : Int)))) = true → 0 ≤ (0 : Int) ∧ (0 : Int) < 6) <|
  if (((!r_3.2.2.2) || (((((r_3.1.getD 0 ((0 : Int), (0 : Int), List.replicate 6 (List.replicate 6 (0 : Int)), ())).2.2.1).getD 1 (List.replicate 6 (0 : Int))).getD 0 (0 : Int)) != (1 : Int))) || (((((r_3.1.getD 1 ((0 : Int), (0 : Int), List.replicate 6 (List.replicate 6 (0 : Int)), ())).2.2.1).getD 1 (List.replicate 6 (0 : Int))).getD 0 (0 : Int)) != (1 : Int))) = true then
    some false
  else
    (few t0_1).bind fun r_4 =>
    (knowing r_4 t1_2).bind fun r_5 =>
    if (!r_5.2.2.2) = true then
      some false
    else
      letO (α := Int) ((r_5.1.length : Int)) fun t62_6 =>
      bindE (loopO (fun x : Int => MatTrue_L1 r_4 r_5 t62_6 x) (0 : Int)) fun q_8 =>
      some true
noncomputable def MatRises_L1 (t0_1 : (Int × Int × List (List Int) × Unit)) (t1_2 : (Int × Int × List (List Int) × Unit)) (r_7 : (Int × Int × List (List Int) × Unit) × Int) (t84_11 : Int) : Option ((Int) ⊕ ((Unit) ⊕ (Bool))) :=
  if (decide (t84_11 < (6 : Int))) = true then
    ck (0 ≤ t84_11 ∧ t84_11 < 6) <|
    ck (0 ≤ t84_11 ∧ t84_11 < 6) <|
    (vect_Within (t0_1.2.2.1.getD t84_11.toNat (List.replicate 6 (0 : Int))) (r_7.1.2.2.1.getD t84_11.toNat (List.replicate 6 (0 : Int)))).bind fun r_13 =>
    ck ((!(!r_13)) = true → 0 ≤ t84_11 ∧ t84_11 < 6) <|
    ck ((!(!r_13)) = true → 0 ≤ t84_11 ∧ t84_11 < 6) <|
    letO ((vect_Within (t1_2.2.2.1.getD t84_11.toNat (List.replicate 6 (0 : Int))) (r_7.1.2.2.1.getD t84_11.toNat (List.replicate 6 (0 : Int)))).getD false) fun r_14 =>
    ck ((!(!r_13)) = true → (vect_Within (t1_2.2.2.1.getD t84_11.toNat (List.replicate 6 (0 : Int))) (r_7.1.2.2.1.getD t84_11.toNat (List.replicate 6 (0 : Int)))).isSome = true) <|
    if ((!r_13) || (!r_14)) = true then
      some (.inr (.inr false))
    else
      some (.inl (arR .add .i64 t84_11 (1 : Int)))
  else
    some (.inr (.inl ()))
noncomputable def MatRises (t0_1 : (Int × Int × List (List Int) × Unit)) (t1_2 : (Int × Int × List (List Int) × Unit)) : Option (Bool) :=
  (mat_New (2 : Int) (0 : Int)).bind fun r_3 =>
  (mat_New (2 : Int) (1 : Int)).bind fun r_4 =>
  if (((r_3.2 != (0 : Int)) || (r_4.2 != (0 : Int))) || (r_4.1.2.1 != (1 : Int))) = true then
    some false
  else
    (mat_Did r_4.1).bind fun r_5 =>
    if (r_5.2 != (0 : Int)) = true then
      some false
    else
      (mat_Meet r_3.1 r_5.1).bind fun r_6 =>
      ck ((!(r_6.2 != (0 : Int))) = true → 0 ≤ (0 : Int) ∧ (0 : Int) < 6) <|
      ck ((!(r_6.2 != (0 : Int))) = true → 0 ≤ (1 : Int) ∧ (1 : Int) < 6) <|
      if ((r_6.2 != (0 : Int)) || (((r_6.1.2.2.1.getD 0 (List.replicate 6 (0 : Int))).getD 1 (0 : Int)) != (1 : Int))) = true then
        some false
      else
        (mat_Meet t0_1 t1_2).bind fun r_7 =>
        if (r_7.2 != (0 : Int)) = true then
          some (eqTIIA6A6IE r_7.1 ((0 : Int), (0 : Int), List.replicate 6 (List.replicate 6 (0 : Int)), ()))
        else
          (mat_Meet r_7.1 t1_2).bind fun r_8 =>
          (mat_Firm t0_1).bind fun r_9 =>
          (mat_Firm r_7.1).bind fun r_10 =>
          bindE (loopO (fun x : Int => MatRises_L1 t0_1 t1_2 r_7 x) (0 : Int)) fun q_12 =>
          letO ((vect_Within r_9.1 r_10.1).getD false) fun r_15 =>
          ck (((r_8.2 == (0 : Int)) && (eqTIIA6A6IE r_8.1 r_7.1)) = true → (vect_Within r_9.1 r_10.1).isSome = true) <|
          letO ((mat_Check r_7.1).getD (0 : Int)) fun r_16 =>
          ck ((((r_8.2 == (0 : Int)) && (eqTIIA6A6IE r_8.1 r_7.1)) && r_15) = true → (mat_Check r_7.1).isSome = true) <|
          some ((((r_8.2 == (0 : Int)) && (eqTIIA6A6IE r_8.1 r_7.1)) && r_15) && (r_16 == (0 : Int)))
noncomputable def slices_Clone_Lpartkeep_Know_partkeep_Know (s_1 : List ((Int × Int × Int × Unit))) : Option (List ((Int × Int × Int × Unit))) :=
  nilO (s_1.length : Int) fun nil_2 =>
  if (nil_2) = true then
    some ([] : List ((Int × Int × Int × Unit)))
  else
    ck ((([] : List ((Int × Int × Int × Unit))).length : Int) + (s_1.length : Int) ≤ maxL) <|
    some (([] : List ((Int × Int × Int × Unit))) ++ s_1)
noncomputable def MatAll_L3 (r_4 : Int) (t49_12 : Int) (t9_15 : List ((Int × Int × Int × Unit))) (t53_16 : Int) : Option ((List ((Int × Int × Int × Unit)) × Int) ⊕ (List ((Int × Int × Int × Unit)))) :=
  if (decide (t53_16 < r_4)) = true then
    ck ((t9_15.length : Int) + ([((1 : Int), t49_12, t53_16, ())].length : Int) ≤ maxL) <|
    letO (α := List ((Int × Int × Int × Unit))) (t9_15 ++ [((1 : Int), t49_12, t53_16, ())]) fun t9_19 =>
    some (.inl (t9_19, arR .add .i64 t53_16 (1 : Int)))
  else
    some (.inr t9_15)
noncomputable def MatAll_L2 (r_4 : Int) (t9_11 : List ((Int × Int × Int × Unit))) (t49_12 : Int) : Option ((List ((Int × Int × Int × Unit)) × Int) ⊕ (List ((Int × Int × Int × Unit)))) :=
  if (decide (t49_12 < r_4)) = true then
    (loopO (fun x : List ((Int × Int × Int × Unit)) × Int => MatAll_L3 r_4 t49_12 x.1 x.2) (t9_11, (0 : Int))).bind fun q_18 =>
    some (.inl (q_18, arR .add .i64 t49_12 (1 : Int)))
  else
    some (.inr t9_11)
noncomputable def MatAll_L1 (r_4 : Int) (t45_6 : Int) (t9_7 : List ((Int × Int × Int × Unit))) (t46_8 : Int) : Option ((List ((Int × Int × Int × Unit)) × Int) ⊕ (List ((Int × Int × Int × Unit)))) :=
  if (decide (t46_8 < t45_6)) = true then
    (loopO (fun x : List ((Int × Int × Int × Unit)) × Int => MatAll_L2 r_4 x.1 x.2) (t9_7, (0 : Int))).bind fun q_14 =>
    some (.inl (q_14, arR .add .i64 t46_8 (1 : Int)))
  else
    some (.inr t9_7)
noncomputable def MatAll_L5 (r_4 : Int) (r_20 : List ((Int × Int × List (List Int) × Unit)) × List Int × List (List Int) × Bool) (r_25 : List Int × Int) (t87_26 : Int) : Option ((Int) ⊕ ((Unit) ⊕ ((Int) ⊕ ((Unit) ⊕ (Bool))))) :=
  if (decide (t87_26 < r_4)) = true then
    ck ((!(r_25.2 != (0 : Int))) = true → 0 ≤ t87_26 ∧ t87_26 < 6) <|
    ck ((!(r_25.2 != (0 : Int))) = true → 0 ≤ t87_26 ∧ t87_26 < (r_20.2.1.length : Int)) <|
    if ((r_25.2 != (0 : Int)) || ((r_25.1.getD t87_26.toNat (0 : Int)) != (r_20.2.1.getD t87_26.toNat (0 : Int)))) = true then
      some (.inr (.inr (.inr (.inr false))))
    else
      some (.inl (arR .add .i64 t87_26 (1 : Int)))
  else
    some (.inr (.inl ()))
noncomputable def MatAll_L4 (r_4 : Int) (r_20 : List ((Int × Int × List (List Int) × Unit)) × List Int × List (List Int) × Bool) (t76_21 : Int) (t77_22 : Int) : Option ((Int) ⊕ ((Unit) ⊕ (Bool))) :=
  if (decide (t77_22 < t76_21)) = true then
    ck (0 ≤ t77_22 ∧ t77_22 < (r_20.1.length : Int)) <|
    letO (α := (Int × Int × List (List Int) × Unit)) (r_20.1.getD t77_22.toNat ((0 : Int), (0 : Int), List.replicate 6 (List.replicate 6 (0 : Int)), ())) fun t17_24 =>
    (mat_Firm t17_24).bind fun r_25 =>
    bindE (loopO (fun x : Int => MatAll_L5 r_4 r_20 r_25 x) (0 : Int)) fun q_27 =>
    some (.inl (arR .add .i64 t77_22 (1 : Int)))
  else
    some (.inr (.inl ()))
noncomputable def MatAll (t0_1 : Int) (t1_2 : List ((Int × Int × Int × Unit))) : Option (Bool) :=
  (knowing (1 : Int) [((0 : Int), (0 : Int), (0 : Int), ())]).bind fun r_3 =>
  ck ((!(!r_3.2.2.2)) = true → 0 ≤ (0 : Int) ∧ (0 : Int) < (r_3.1.length : Int)) <|
  ck ((!(!r_3.2.2.2)) = true → 0 ≤ (0 : Int) ∧ (0 : Int) < 6) <|
  ck ((!(!r_3.2.2.2)) = true → 0 ≤ (0 : Int) ∧ (0 : Int) < 6) <|
  if ((!r_3.2.2.2) || (((((r_3.1.getD 0 ((0 : Int), (0 : Int), List.replicate 6 (List.replicate 6 (0 : Int)), ())).2.2.1).getD 0 (List.replicate 6 (0 : Int))).getD 0 (0 : Int)) != (1 : Int))) = true then
    some false
  else
    (few t0_1).bind fun r_4 =>
    (slices_Clone_Lpartkeep_Know_partkeep_Know t1_2).bind fun r_5 =>
    letO (α := Int) (arR .mul .i64 (2 : Int) r_4) fun t45_6 =>
    (loopO (fun x : List ((Int × Int × Int × Unit)) × Int => MatAll_L1 r_4 t45_6 x.1 x.2) (r_5, (0 : Int))).bind fun q_10 =>
    (knowing r_4 q_10).bind fun r_20 =>
    if (!r_20.2.2.2) = true then
      some false
    else
      letO (α := Int) ((r_20.1.length : Int)) fun t76_21 =>
      bindE (loopO (fun x : Int => MatAll_L4 r_4 r_20 t76_21 x) (0 : Int)) fun q_23 =>
      some true
end Go.Proofs.Ytikbileeohddjaa.Mt
