/- Functions of the program as functions that may fail, and that the code computes them (printed). Each theorem bears its conditions itself. -/
import Derived.Test.YtdahfpfkjljojaaSyf
open Go Go.Proofs.Ytdahfpfkjljojaa.Sy
set_option maxHeartbeats 4000000
set_option maxRecDepth 100000
set_option cbv.maxSteps 10000000
set_option linter.unusedVariables false
set_option linter.unusedSimpArgs false
namespace Go.Proofs.Ytdahfpfkjljojaa.Vc
def eqA6I (x y : List Int) : Bool := PT.eqb (.arr 6 (.int .i64)) x y
theorem eqA6I_iff (x y : List Int) : eqA6I x y = true ↔ x = y := eqb_iff (.arr 6 (.int .i64)) rfl x y
def eqB (x y : Bool) : Bool := PT.eqb (.bool) x y
theorem eqB_iff (x y : Bool) : eqB x y = true ↔ x = y := eqb_iff (.bool) rfl x y
def eqTIIE (x y : (Int × Int × Unit)) : Bool := PT.eqb (.st [.int .i64, .int .i64]) x y
theorem eqTIIE_iff (x y : (Int × Int × Unit)) : eqTIIE x y = true ↔ x = y := eqb_iff (.st [.int .i64, .int .i64]) rfl x y
noncomputable def vect_Within_L1 (a_1 : List Int) (b_2 : List Int) (t6_3 : Int) : Option ((Int) ⊕ ((Unit) ⊕ (Bool))) :=
  if (decide (t6_3 < (6 : Int))) = true then
    ck (0 ≤ t6_3 ∧ t6_3 < 6) <|
    ck (0 ≤ t6_3 ∧ t6_3 < 6) <|
    if (decide ((a_1.getD t6_3.toNat (0 : Int)) > (b_2.getD t6_3.toNat (0 : Int)))) = true then
      some (.inr (.inr false))
    else
      some (.inl (arR .add .i64 t6_3 (1 : Int)))
  else
    some (.inr (.inl ()))
noncomputable def vect_Within (a_1 : List Int) (b_2 : List Int) : Option (Bool) :=
  bindE (loopO (fun x : Int => vect_Within_L1 a_1 b_2 x) (0 : Int)) fun q_4 =>
  some true
noncomputable def vect_Compare (a_1 : List Int) (b_2 : List Int) : Option (Int) :=
  if (eqA6I a_1 b_2) = true then
    some (0 : Int)
  else
    (vect_Within a_1 b_2).bind fun r_3 =>
    if (r_3) = true then
      some (1 : Int)
    else
      (vect_Within b_2 a_1).bind fun r_4 =>
      if (r_4) = true then
        some (2 : Int)
      else
        some (3 : Int)
noncomputable def vect_Max_L1 (b_2 : List Int) (a_4 : List Int) (t6_5 : Int) : Option ((List Int × Int) ⊕ (List Int)) :=
  if (decide (t6_5 < (6 : Int))) = true then
    ck (0 ≤ t6_5 ∧ t6_5 < 6) <|
    ck (0 ≤ t6_5 ∧ t6_5 < 6) <|
    ck (0 ≤ t6_5 ∧ t6_5 < 6) <|
    letO (α := List Int) (a_4.set t6_5.toNat (mxI (a_4.getD t6_5.toNat (0 : Int)) (b_2.getD t6_5.toNat (0 : Int)))) fun a_8 =>
    some (.inl (a_8, arR .add .i64 t6_5 (1 : Int)))
  else
    some (.inr a_4)
noncomputable def vect_Max (a_1 : List Int) (b_2 : List Int) : Option (List Int) :=
  letO (α := List Int) (List.replicate 6 (0 : Int)) fun t4_3 =>
  (loopO (fun x : List Int × Int => vect_Max_L1 b_2 x.1 x.2) (a_1, (0 : Int))).bind fun q_7 =>
  some q_7
noncomputable def vect_Min_L1 (b_2 : List Int) (a_4 : List Int) (t6_5 : Int) : Option ((List Int × Int) ⊕ (List Int)) :=
  if (decide (t6_5 < (6 : Int))) = true then
    ck (0 ≤ t6_5 ∧ t6_5 < 6) <|
    ck (0 ≤ t6_5 ∧ t6_5 < 6) <|
    ck (0 ≤ t6_5 ∧ t6_5 < 6) <|
    letO (α := List Int) (a_4.set t6_5.toNat (mnI (a_4.getD t6_5.toNat (0 : Int)) (b_2.getD t6_5.toNat (0 : Int)))) fun a_8 =>
    some (.inl (a_8, arR .add .i64 t6_5 (1 : Int)))
  else
    some (.inr a_4)
noncomputable def vect_Min (a_1 : List Int) (b_2 : List Int) : Option (List Int) :=
  letO (α := List Int) (List.replicate 6 (0 : Int)) fun t4_3 =>
  (loopO (fun x : List Int × Int => vect_Min_L1 b_2 x.1 x.2) (a_1, (0 : Int))).bind fun q_7 =>
  some q_7
noncomputable def VectLaws (t0_1 : List Int) (t1_2 : List Int) (t2_3 : List Int) : Option (Bool) :=
  (vect_Compare [(1 : Int), (0 : Int), (0 : Int), (0 : Int), (0 : Int), (0 : Int)] [(0 : Int), (1 : Int), (0 : Int), (0 : Int), (0 : Int), (0 : Int)]).bind fun r_4 =>
  letO ((vect_Compare [(1 : Int), (0 : Int), (0 : Int), (0 : Int), (0 : Int), (0 : Int)] [(1 : Int), (1 : Int), (0 : Int), (0 : Int), (0 : Int), (0 : Int)]).getD (0 : Int)) fun r_5 =>
  ck ((!(r_4 != (3 : Int))) = true → (vect_Compare [(1 : Int), (0 : Int), (0 : Int), (0 : Int), (0 : Int), (0 : Int)] [(1 : Int), (1 : Int), (0 : Int), (0 : Int), (0 : Int), (0 : Int)]).isSome = true) <|
  if ((r_4 != (3 : Int)) || (r_5 != (1 : Int))) = true then
    some false
  else
    (vect_Compare t0_1 t1_2).bind fun r_6 =>
    letO ((vect_Compare t1_2 t0_1).getD (0 : Int)) fun r_7 =>
    ck ((!((decide (r_6 < (0 : Int))) || (decide (r_6 > (3 : Int))))) = true → (vect_Compare t1_2 t0_1).isSome = true) <|
    ck ((!((decide (r_6 < (0 : Int))) || (decide (r_6 > (3 : Int))))) = true → 0 ≤ r_6 ∧ r_6 < 4) <|
    letO ((vect_Within t0_1 t1_2).getD false) fun r_8 =>
    ck ((!(((decide (r_6 < (0 : Int))) || (decide (r_6 > (3 : Int)))) || (r_7 != ([(0 : Int), (2 : Int), (1 : Int), (3 : Int)].getD r_6.toNat (0 : Int))))) = true → (vect_Within t0_1 t1_2).isSome = true) <|
    letO ((vect_Max t0_1 t1_2).getD (List.replicate 6 (0 : Int))) fun r_9 =>
    ck ((!(((decide (r_6 < (0 : Int))) || (decide (r_6 > (3 : Int)))) || (r_7 != ([(0 : Int), (2 : Int), (1 : Int), (3 : Int)].getD r_6.toNat (0 : Int))))) = true → (vect_Max t0_1 t1_2).isSome = true) <|
    letO ((vect_Within t0_1 t1_2).getD false) fun r_10 =>
    ck ((!((((decide (r_6 < (0 : Int))) || (decide (r_6 > (3 : Int)))) || (r_7 != ([(0 : Int), (2 : Int), (1 : Int), (3 : Int)].getD r_6.toNat (0 : Int)))) || (!(eqB r_8 (eqA6I r_9 t1_2))))) = true → (vect_Within t0_1 t1_2).isSome = true) <|
    letO ((vect_Min t0_1 t1_2).getD (List.replicate 6 (0 : Int))) fun r_11 =>
    ck ((!((((decide (r_6 < (0 : Int))) || (decide (r_6 > (3 : Int)))) || (r_7 != ([(0 : Int), (2 : Int), (1 : Int), (3 : Int)].getD r_6.toNat (0 : Int)))) || (!(eqB r_8 (eqA6I r_9 t1_2))))) = true → (vect_Min t0_1 t1_2).isSome = true) <|
    if (((((decide (r_6 < (0 : Int))) || (decide (r_6 > (3 : Int)))) || (r_7 != ([(0 : Int), (2 : Int), (1 : Int), (3 : Int)].getD r_6.toNat (0 : Int)))) || (!(eqB r_8 (eqA6I r_9 t1_2)))) || (!(eqB r_10 (eqA6I r_11 t0_1)))) = true then
      some false
    else
      (vect_Min t0_1 t1_2).bind fun r_12 =>
      (vect_Max t0_1 r_12).bind fun r_13 =>
      letO ((vect_Max t1_2 t2_3).getD (List.replicate 6 (0 : Int))) fun r_14 =>
      ck ((eqA6I r_13 t0_1) = true → (vect_Max t1_2 t2_3).isSome = true) <|
      letO ((vect_Min t0_1 r_14).getD (List.replicate 6 (0 : Int))) fun r_15 =>
      ck ((eqA6I r_13 t0_1) = true → (vect_Min t0_1 r_14).isSome = true) <|
      letO ((vect_Min t0_1 t1_2).getD (List.replicate 6 (0 : Int))) fun r_16 =>
      ck ((eqA6I r_13 t0_1) = true → (vect_Min t0_1 t1_2).isSome = true) <|
      letO ((vect_Min t0_1 t2_3).getD (List.replicate 6 (0 : Int))) fun r_17 =>
      ck ((eqA6I r_13 t0_1) = true → (vect_Min t0_1 t2_3).isSome = true) <|
      letO ((vect_Max r_16 r_17).getD (List.replicate 6 (0 : Int))) fun r_18 =>
      ck ((eqA6I r_13 t0_1) = true → (vect_Max r_16 r_17).isSome = true) <|
      letO ((vect_Max t1_2 t2_3).getD (List.replicate 6 (0 : Int))) fun r_19 =>
      ck (((eqA6I r_13 t0_1) && (eqA6I r_15 r_18)) = true → (vect_Max t1_2 t2_3).isSome = true) <|
      letO ((vect_Max t0_1 r_19).getD (List.replicate 6 (0 : Int))) fun r_20 =>
      ck (((eqA6I r_13 t0_1) && (eqA6I r_15 r_18)) = true → (vect_Max t0_1 r_19).isSome = true) <|
      letO ((vect_Max t0_1 t1_2).getD (List.replicate 6 (0 : Int))) fun r_21 =>
      ck (((eqA6I r_13 t0_1) && (eqA6I r_15 r_18)) = true → (vect_Max t0_1 t1_2).isSome = true) <|
      letO ((vect_Max r_21 t2_3).getD (List.replicate 6 (0 : Int))) fun r_22 =>
      ck (((eqA6I r_13 t0_1) && (eqA6I r_15 r_18)) = true → (vect_Max r_21 t2_3).isSome = true) <|
      some (((eqA6I r_13 t0_1) && (eqA6I r_15 r_18)) && (eqA6I r_20 r_22))
noncomputable def stamp_Check_J2 (t12_7 : Int) (t3_10 : List Int) (t4_11 : List (List Bool)) : Option ((List Int × List (List Bool) × Int) ⊕ ((Unit) ⊕ (Int))) :=
  some (.inl (t3_10, t4_11, arR .add .i64 t12_7 (1 : Int)))
noncomputable def stamp_Check_L1 (t0_1 : List ((Int × Int × Int × Unit))) (t11_4 : Int) (t3_5 : List Int) (t4_6 : List (List Bool)) (t12_7 : Int) : Option ((List Int × List (List Bool) × Int) ⊕ ((Unit) ⊕ (Int))) :=
  if (decide (t12_7 < t11_4)) = true then
    ck (0 ≤ t12_7 ∧ t12_7 < (t0_1.length : Int)) <|
    letO (α := (Int × Int × Int × Unit)) (t0_1.getD t12_7.toNat ((0 : Int), (0 : Int), (0 : Int), ())) fun t6_9 =>
    if ((((decide (t6_9.1 < (0 : Int))) || (decide (t6_9.1 ≥ (6 : Int)))) || (decide (t6_9.2.2.1 < (0 : Int)))) || (decide (t6_9.2.2.1 ≥ (30 : Int)))) = true then
      some (.inr (.inr (1 : Int)))
    else
      if (t6_9.2.1 == (1 : Int)) = true then
        if (t6_9.2.2.1 != (0 : Int)) = true then
          some (.inr (.inr (4 : Int)))
        else
          stamp_Check_J2 t12_7 t3_5 t4_6
      else
        if (t6_9.2.1 == (2 : Int)) = true then
          ck (0 ≤ t6_9.2.2.1 ∧ t6_9.2.2.1 < 30) <|
          if ((t3_5.getD t6_9.2.2.1.toNat (0 : Int)) != (0 : Int)) = true then
            some (.inr (.inr (4 : Int)))
          else
            ck (0 ≤ t6_9.2.2.1 ∧ t6_9.2.2.1 < 30) <|
            stamp_Check_J2 t12_7 (t3_5.set t6_9.2.2.1.toNat (arR .add .i64 t6_9.1 (1 : Int))) t4_6
        else
          if (t6_9.2.1 == (3 : Int)) = true then
            ck (0 ≤ t6_9.2.2.1 ∧ t6_9.2.2.1 < 30) <|
            ck ((!((t3_5.getD t6_9.2.2.1.toNat (0 : Int)) == (0 : Int))) = true → 0 ≤ t6_9.2.2.1 ∧ t6_9.2.2.1 < 30) <|
            ck ((!(((t3_5.getD t6_9.2.2.1.toNat (0 : Int)) == (0 : Int)) || ((t3_5.getD t6_9.2.2.1.toNat (0 : Int)) == (arR .add .i64 t6_9.1 (1 : Int))))) = true → 0 ≤ t6_9.2.2.1 ∧ t6_9.2.2.1 < 30) <|
            ck ((!(((t3_5.getD t6_9.2.2.1.toNat (0 : Int)) == (0 : Int)) || ((t3_5.getD t6_9.2.2.1.toNat (0 : Int)) == (arR .add .i64 t6_9.1 (1 : Int))))) = true → 0 ≤ t6_9.1 ∧ t6_9.1 < 6) <|
            if ((((t3_5.getD t6_9.2.2.1.toNat (0 : Int)) == (0 : Int)) || ((t3_5.getD t6_9.2.2.1.toNat (0 : Int)) == (arR .add .i64 t6_9.1 (1 : Int)))) || ((t4_6.getD t6_9.2.2.1.toNat (List.replicate 6 false)).getD t6_9.1.toNat false)) = true then
              some (.inr (.inr (4 : Int)))
            else
              ck (0 ≤ t6_9.2.2.1 ∧ t6_9.2.2.1 < 30) <|
              ck (0 ≤ t6_9.1 ∧ t6_9.1 < 6) <|
              stamp_Check_J2 t12_7 t3_5 (t4_6.set t6_9.2.2.1.toNat ((t4_6.getD t6_9.2.2.1.toNat (List.replicate 6 false)).set t6_9.1.toNat true))
          else
            some (.inr (.inr (4 : Int)))
  else
    some (.inr (.inl ()))
noncomputable def stamp_Check (t0_1 : List ((Int × Int × Int × Unit))) : Option (Int) :=
  if (decide ((t0_1.length : Int) > (60 : Int))) = true then
    some (2 : Int)
  else
    letO (α := List Int) (List.replicate 30 (0 : Int)) fun t3_2 =>
    letO (α := List (List Bool)) (List.replicate 30 (List.replicate 6 false)) fun t4_3 =>
    letO (α := Int) ((t0_1.length : Int)) fun t11_4 =>
    bindE (loopO (fun x : List Int × List (List Bool) × Int => stamp_Check_L1 t0_1 t11_4 x.1 x.2.1 x.2.2) (t3_2, t4_3, (0 : Int))) fun q_8 =>
    some (0 : Int)
noncomputable def vect_Vectors_J3 (out_8 : List (List Int)) (t18_9 : Int) (x_12 : (Int × Int × Int × Unit)) (clock_14 : List (List Int)) (sent_15 : List (List Int)) : Option ((List (List Int) × List (List Int) × List (List Int) × Int) ⊕ (List (List Int))) :=
  ck ((out_8.length : Int) + (([clock_14.getD x_12.1.toNat (List.replicate 6 (0 : Int))]).length : Int) ≤ maxL) <|
  letO (α := List (List Int)) (out_8 ++ ([clock_14.getD x_12.1.toNat (List.replicate 6 (0 : Int))])) fun out_16 =>
  some (.inl (clock_14, sent_15, out_16, arR .add .i64 t18_9 (1 : Int)))
noncomputable def vect_Vectors_J2 (sent_7 : List (List Int)) (out_8 : List (List Int)) (t18_9 : Int) (x_12 : (Int × Int × Int × Unit)) (clock_13 : List (List Int)) : Option ((List (List Int) × List (List Int) × List (List Int) × Int) ⊕ (List (List Int))) :=
  ck (0 ≤ x_12.1 ∧ x_12.1 < 6) <|
  ck (0 ≤ x_12.1 ∧ x_12.1 < 6) <|
  letO (α := List (List Int)) (clock_13.set x_12.1.toNat ((clock_13.getD x_12.1.toNat (List.replicate 6 (0 : Int))).set x_12.1.toNat (arR .add .i64 ((clock_13.getD x_12.1.toNat (List.replicate 6 (0 : Int))).getD x_12.1.toNat (0 : Int)) (1 : Int)))) fun clock_14 =>
  if (x_12.2.1 == (2 : Int)) = true then
    ck (0 ≤ x_12.2.2.1 ∧ x_12.2.2.1 < 30) <|
    vect_Vectors_J3 out_8 t18_9 x_12 clock_14 (sent_7.set x_12.2.2.1.toNat (clock_14.getD x_12.1.toNat (List.replicate 6 (0 : Int))))
  else
    vect_Vectors_J3 out_8 t18_9 x_12 clock_14 sent_7
noncomputable def vect_Vectors_L1 (h_1 : List ((Int × Int × Int × Unit))) (t17_5 : Int) (clock_6 : List (List Int)) (sent_7 : List (List Int)) (out_8 : List (List Int)) (t18_9 : Int) : Option ((List (List Int) × List (List Int) × List (List Int) × Int) ⊕ (List (List Int))) :=
  if (decide (t18_9 < t17_5)) = true then
    ck (0 ≤ t18_9 ∧ t18_9 < (h_1.length : Int)) <|
    letO (α := (Int × Int × Int × Unit)) (h_1.getD t18_9.toNat ((0 : Int), (0 : Int), (0 : Int), ())) fun x_12 =>
    ck (0 ≤ x_12.1 ∧ x_12.1 < 6) <|
    if (x_12.2.1 == (3 : Int)) = true then
      ck (0 ≤ x_12.2.2.1 ∧ x_12.2.2.1 < 30) <|
      (vect_Max (clock_6.getD x_12.1.toNat (List.replicate 6 (0 : Int))) (sent_7.getD x_12.2.2.1.toNat (List.replicate 6 (0 : Int)))).bind fun r_17 =>
      vect_Vectors_J2 sent_7 out_8 t18_9 x_12 (clock_6.set x_12.1.toNat r_17)
    else
      vect_Vectors_J2 sent_7 out_8 t18_9 x_12 clock_6
  else
    some (.inr out_8)
noncomputable def vect_Vectors (h_1 : List ((Int × Int × Int × Unit))) : Option (List (List Int) × Int) :=
  (stamp_Check h_1).bind fun r_2 =>
  if (r_2 != (0 : Int)) = true then
    some (([] : List (List Int)), r_2)
  else
    letO (α := List (List Int)) (List.replicate 6 (List.replicate 6 (0 : Int))) fun clock_3 =>
    letO (α := List (List Int)) (List.replicate 30 (List.replicate 6 (0 : Int))) fun sent_4 =>
    letO (α := Int) ((h_1.length : Int)) fun t17_5 =>
    (loopO (fun x : List (List Int) × List (List Int) × List (List Int) × Int => vect_Vectors_L1 h_1 t17_5 x.1 x.2.1 x.2.2.1 x.2.2.2) (clock_3, sent_4, ([] : List (List Int)), (0 : Int))).bind fun q_11 =>
    some (q_11, (0 : Int))
noncomputable def VectTakes_J4 (t57_13 : Int) (t9_18 : List Int) (t10_19 : List Int) : Option ((List Int × List Int × Int) ⊕ (List Int × List Int)) :=
  some (.inl (t9_18, t10_19, arR .add .i64 t57_13 (1 : Int)))
noncomputable def VectTakes_J3 (r_3 : List (List Int) × Int) (t8_7 : (Int × Int × Int × Unit)) (t10_12 : List Int) (t57_13 : Int) (t12_17 : (Int × Int × Int × Unit)) (t9_18 : List Int) : Option ((List Int × List Int × Int) ⊕ (List Int × List Int)) :=
  if (((t8_7.2.1 == (3 : Int)) && (t12_17.2.1 == (2 : Int))) && (t12_17.2.2.1 == t8_7.2.2.1)) = true then
    ck (0 ≤ t57_13 ∧ t57_13 < (r_3.1.length : Int)) <|
    VectTakes_J4 t57_13 t9_18 (r_3.1.getD t57_13.toNat (List.replicate 6 (0 : Int)))
  else
    VectTakes_J4 t57_13 t9_18 t10_12
noncomputable def VectTakes_L2 (r_3 : List (List Int) × Int) (t8_7 : (Int × Int × Int × Unit)) (t55_9 : List ((Int × Int × Int × Unit))) (t56_10 : Int) (t9_11 : List Int) (t10_12 : List Int) (t57_13 : Int) : Option ((List Int × List Int × Int) ⊕ (List Int × List Int)) :=
  if (decide (t57_13 < t56_10)) = true then
    ck (0 ≤ t57_13 ∧ t57_13 < (t55_9.length : Int)) <|
    letO (α := (Int × Int × Int × Unit)) (t55_9.getD t57_13.toNat ((0 : Int), (0 : Int), (0 : Int), ())) fun t12_17 =>
    if (t12_17.1 == t8_7.1) = true then
      ck (0 ≤ t57_13 ∧ t57_13 < (r_3.1.length : Int)) <|
      VectTakes_J3 r_3 t8_7 t10_12 t57_13 t12_17 (r_3.1.getD t57_13.toNat (List.replicate 6 (0 : Int)))
    else
      VectTakes_J3 r_3 t8_7 t10_12 t57_13 t12_17 t9_11
  else
    some (.inr (t9_11, t10_12))
noncomputable def VectTakes_L1 (t0_1 : List ((Int × Int × Int × Unit))) (r_3 : List (List Int) × Int) (t47_4 : Int) (t48_5 : Int) : Option ((Int) ⊕ ((Unit) ⊕ (Bool))) :=
  if (decide (t48_5 < t47_4)) = true then
    ck (0 ≤ t48_5 ∧ t48_5 < (t0_1.length : Int)) <|
    letO (α := (Int × Int × Int × Unit)) (t0_1.getD t48_5.toNat ((0 : Int), (0 : Int), (0 : Int), ())) fun t8_7 =>
    letO (α := List Int) (List.replicate 6 (0 : Int)) fun t9_8 =>
    ck (0 ≤ (0 : Int) ∧ (0 : Int) ≤ t48_5 ∧ t48_5 ≤ (t0_1.length : Int)) <|
    letO (α := List ((Int × Int × Int × Unit))) ((t0_1.take t48_5.toNat).drop 0) fun t55_9 =>
    letO (α := Int) ((t55_9.length : Int)) fun t56_10 =>
    (loopO (fun x : List Int × List Int × Int => VectTakes_L2 r_3 t8_7 t55_9 t56_10 x.1 x.2.1 x.2.2) (t9_8, t9_8, (0 : Int))).bind fun q_16 =>
    (vect_Max q_16.1 q_16.2).bind fun r_20 =>
    ck (0 ≤ t8_7.1 ∧ t8_7.1 < 6) <|
    ck (0 ≤ t8_7.1 ∧ t8_7.1 < 6) <|
    letO (α := List Int) (r_20.set t8_7.1.toNat (arR .add .i64 (r_20.getD t8_7.1.toNat (0 : Int)) (1 : Int))) fun t13_21 =>
    ck (0 ≤ t48_5 ∧ t48_5 < (r_3.1.length : Int)) <|
    if (!(eqA6I (r_3.1.getD t48_5.toNat (List.replicate 6 (0 : Int))) t13_21)) = true then
      some (.inr (.inr false))
    else
      some (.inl (arR .add .i64 t48_5 (1 : Int)))
  else
    some (.inr (.inl ()))
noncomputable def VectTakes (t0_1 : List ((Int × Int × Int × Unit))) : Option (Bool) :=
  (vect_Vectors [((2 : Int), (2 : Int), (0 : Int), ()), ((0 : Int), (1 : Int), (0 : Int), ()), ((0 : Int), (3 : Int), (0 : Int), ())]).bind fun r_2 =>
  ck ((!((r_2.2 != (0 : Int)) || ((r_2.1.length : Int) != (3 : Int)))) = true → 0 ≤ (2 : Int) ∧ (2 : Int) < (r_2.1.length : Int)) <|
  if (((r_2.2 != (0 : Int)) || ((r_2.1.length : Int) != (3 : Int))) || (!(eqA6I (r_2.1.getD 2 (List.replicate 6 (0 : Int))) [(2 : Int), (0 : Int), (1 : Int), (0 : Int), (0 : Int), (0 : Int)]))) = true then
    some false
  else
    (vect_Vectors t0_1).bind fun r_3 =>
    if (r_3.2 != (0 : Int)) = true then
      some ((r_3.1.length : Int) == (0 : Int))
    else
      letO (α := Int) ((t0_1.length : Int)) fun t47_4 =>
      bindE (loopO (fun x : Int => VectTakes_L1 t0_1 r_3 t47_4 x) (0 : Int)) fun q_6 =>
      some true
noncomputable def stamp_Stamps_J3 (out_8 : List Int) (t18_9 : Int) (x_12 : (Int × Int × Int × Unit)) (clock_14 : List Int) (sent_15 : List Int) : Option ((List Int × List Int × List Int × Int) ⊕ (List Int)) :=
  ck ((out_8.length : Int) + (([clock_14.getD x_12.1.toNat (0 : Int)]).length : Int) ≤ maxL) <|
  letO (α := List Int) (out_8 ++ ([clock_14.getD x_12.1.toNat (0 : Int)])) fun out_16 =>
  some (.inl (clock_14, sent_15, out_16, arR .add .i64 t18_9 (1 : Int)))
noncomputable def stamp_Stamps_J2 (sent_7 : List Int) (out_8 : List Int) (t18_9 : Int) (x_12 : (Int × Int × Int × Unit)) (clock_13 : List Int) : Option ((List Int × List Int × List Int × Int) ⊕ (List Int)) :=
  letO (α := List Int) (clock_13.set x_12.1.toNat (arR .add .i64 (clock_13.getD x_12.1.toNat (0 : Int)) (1 : Int))) fun clock_14 =>
  if (x_12.2.1 == (2 : Int)) = true then
    ck (0 ≤ x_12.2.2.1 ∧ x_12.2.2.1 < 30) <|
    stamp_Stamps_J3 out_8 t18_9 x_12 clock_14 (sent_7.set x_12.2.2.1.toNat (clock_14.getD x_12.1.toNat (0 : Int)))
  else
    stamp_Stamps_J3 out_8 t18_9 x_12 clock_14 sent_7
noncomputable def stamp_Stamps_L1 (h_1 : List ((Int × Int × Int × Unit))) (t17_5 : Int) (clock_6 : List Int) (sent_7 : List Int) (out_8 : List Int) (t18_9 : Int) : Option ((List Int × List Int × List Int × Int) ⊕ (List Int)) :=
  if (decide (t18_9 < t17_5)) = true then
    ck (0 ≤ t18_9 ∧ t18_9 < (h_1.length : Int)) <|
    letO (α := (Int × Int × Int × Unit)) (h_1.getD t18_9.toNat ((0 : Int), (0 : Int), (0 : Int), ())) fun x_12 =>
    ck (0 ≤ x_12.1 ∧ x_12.1 < 6) <|
    if (x_12.2.1 == (3 : Int)) = true then
      ck (0 ≤ x_12.2.2.1 ∧ x_12.2.2.1 < 30) <|
      stamp_Stamps_J2 sent_7 out_8 t18_9 x_12 (clock_6.set x_12.1.toNat (mxI (clock_6.getD x_12.1.toNat (0 : Int)) (sent_7.getD x_12.2.2.1.toNat (0 : Int))))
    else
      stamp_Stamps_J2 sent_7 out_8 t18_9 x_12 clock_6
  else
    some (.inr out_8)
noncomputable def stamp_Stamps (h_1 : List ((Int × Int × Int × Unit))) : Option (List Int × Int) :=
  (stamp_Check h_1).bind fun r_2 =>
  if (r_2 != (0 : Int)) = true then
    some (([] : List Int), r_2)
  else
    letO (α := List Int) (List.replicate 6 (0 : Int)) fun clock_3 =>
    letO (α := List Int) (List.replicate 30 (0 : Int)) fun sent_4 =>
    letO (α := Int) ((h_1.length : Int)) fun t17_5 =>
    (loopO (fun x : List Int × List Int × List Int × Int => stamp_Stamps_L1 h_1 t17_5 x.1 x.2.1 x.2.2.1 x.2.2.2) (clock_3, sent_4, ([] : List Int), (0 : Int))).bind fun q_11 =>
    some (q_11, (0 : Int))
noncomputable def VectCounts_L2 (t71_12 : List Int) (t12_13 : Int) (t72_14 : Int) : Option ((Int × Int) ⊕ (Int)) :=
  if (decide (t72_14 < (6 : Int))) = true then
    ck (0 ≤ t72_14 ∧ t72_14 < 6) <|
    letO (α := Int) (t71_12.getD t72_14.toNat (0 : Int)) fun t14_17 =>
    letO (α := Int) (arR .add .i64 t12_13 t14_17) fun t12_18 =>
    some (.inl (t12_18, arR .add .i64 t72_14 (1 : Int)))
  else
    some (.inr t12_13)
noncomputable def VectCounts_L1 (t0_1 : List ((Int × Int × Int × Unit))) (r_3 : List (List Int) × Int) (r_4 : List Int × Int) (t56_6 : Int) (t9_7 : List Int) (t57_8 : Int) : Option ((List Int × Int) ⊕ ((Unit) ⊕ (Bool))) :=
  if (decide (t57_8 < t56_6)) = true then
    ck (0 ≤ t57_8 ∧ t57_8 < (t0_1.length : Int)) <|
    letO (α := (Int × Int × Int × Unit)) (t0_1.getD t57_8.toNat ((0 : Int), (0 : Int), (0 : Int), ())) fun t11_10 =>
    ck (0 ≤ t11_10.1 ∧ t11_10.1 < 6) <|
    ck (0 ≤ t11_10.1 ∧ t11_10.1 < 6) <|
    letO (α := List Int) (t9_7.set t11_10.1.toNat (arR .add .i64 (t9_7.getD t11_10.1.toNat (0 : Int)) (1 : Int))) fun t9_11 =>
    ck (0 ≤ t57_8 ∧ t57_8 < (r_3.1.length : Int)) <|
    letO (α := List Int) (r_3.1.getD t57_8.toNat (List.replicate 6 (0 : Int))) fun t71_12 =>
    (loopO (fun x : Int × Int => VectCounts_L2 t71_12 x.1 x.2) ((0 : Int), (0 : Int))).bind fun q_16 =>
    ck (0 ≤ t57_8 ∧ t57_8 < (r_3.1.length : Int)) <|
    ck (0 ≤ t11_10.1 ∧ t11_10.1 < 6) <|
    ck (0 ≤ t11_10.1 ∧ t11_10.1 < 6) <|
    ck ((!(((r_3.1.getD t57_8.toNat (List.replicate 6 (0 : Int))).getD t11_10.1.toNat (0 : Int)) != (t9_11.getD t11_10.1.toNat (0 : Int)))) = true → 0 ≤ t57_8 ∧ t57_8 < (r_4.1.length : Int)) <|
    ck ((!((((r_3.1.getD t57_8.toNat (List.replicate 6 (0 : Int))).getD t11_10.1.toNat (0 : Int)) != (t9_11.getD t11_10.1.toNat (0 : Int))) || (decide ((r_4.1.getD t57_8.toNat (0 : Int)) > q_16)))) = true → 0 ≤ t57_8 ∧ t57_8 < (r_3.1.length : Int)) <|
    letO ((vect_Within (r_3.1.getD t57_8.toNat (List.replicate 6 (0 : Int))) t9_11).getD false) fun r_19 =>
    ck ((!((((r_3.1.getD t57_8.toNat (List.replicate 6 (0 : Int))).getD t11_10.1.toNat (0 : Int)) != (t9_11.getD t11_10.1.toNat (0 : Int))) || (decide ((r_4.1.getD t57_8.toNat (0 : Int)) > q_16)))) = true → (vect_Within (r_3.1.getD t57_8.toNat (List.replicate 6 (0 : Int))) t9_11).isSome = true) <|
    if (((((r_3.1.getD t57_8.toNat (List.replicate 6 (0 : Int))).getD t11_10.1.toNat (0 : Int)) != (t9_11.getD t11_10.1.toNat (0 : Int))) || (decide ((r_4.1.getD t57_8.toNat (0 : Int)) > q_16))) || (!r_19)) = true then
      some (.inr (.inr false))
    else
      some (.inl (t9_11, arR .add .i64 t57_8 (1 : Int)))
  else
    some (.inr (.inl ()))
noncomputable def VectCounts (t0_1 : List ((Int × Int × Int × Unit))) : Option (Bool) :=
  (vect_Vectors [((2 : Int), (1 : Int), (0 : Int), ()), ((2 : Int), (1 : Int), (0 : Int), ())]).bind fun r_2 =>
  ck ((!((r_2.2 != (0 : Int)) || ((r_2.1.length : Int) != (2 : Int)))) = true → 0 ≤ (1 : Int) ∧ (1 : Int) < (r_2.1.length : Int)) <|
  if (((r_2.2 != (0 : Int)) || ((r_2.1.length : Int) != (2 : Int))) || (!(eqA6I (r_2.1.getD 1 (List.replicate 6 (0 : Int))) [(0 : Int), (0 : Int), (2 : Int), (0 : Int), (0 : Int), (0 : Int)]))) = true then
    some false
  else
    (vect_Vectors t0_1).bind fun r_3 =>
    (stamp_Stamps t0_1).bind fun r_4 =>
    if ((r_3.2 != (0 : Int)) || (r_4.2 != (0 : Int))) = true then
      some (r_3.2 == r_4.2)
    else
      letO (α := List Int) (List.replicate 6 (0 : Int)) fun t9_5 =>
      letO (α := Int) ((t0_1.length : Int)) fun t56_6 =>
      bindE (loopO (fun x : List Int × Int => VectCounts_L1 t0_1 r_3 r_4 t56_6 x.1 x.2) (t9_5, (0 : Int))) fun q_9 =>
      some true
noncomputable def stamp_Ahead_J3 (t39_14 : Int) (t5_18 : List (List Bool)) : Option ((List (List Bool) × Int) ⊕ (List (List Bool))) :=
  some (.inl (t5_18, arR .add .i64 t39_14 (1 : Int)))
noncomputable def stamp_Ahead_L4 (t24_6 : Int) (t39_14 : Int) (t5_20 : List (List Bool)) (t73_21 : Int) : Option ((List (List Bool) × Int) ⊕ (List (List Bool))) :=
  if (decide (t73_21 < t39_14)) = true then
    ck (0 ≤ t24_6 ∧ t24_6 < (t5_20.length : Int)) <|
    ck (0 ≤ t24_6 ∧ t24_6 < (t5_20.length : Int)) <|
    ck (0 ≤ t73_21 ∧ t73_21 < ((t5_20.getD t24_6.toNat ([] : List Bool)).length : Int)) <|
    ck ((!((t5_20.getD t24_6.toNat ([] : List Bool)).getD t73_21.toNat false)) = true → 0 ≤ t39_14 ∧ t39_14 < (t5_20.length : Int)) <|
    ck ((!((t5_20.getD t24_6.toNat ([] : List Bool)).getD t73_21.toNat false)) = true → 0 ≤ t73_21 ∧ t73_21 < ((t5_20.getD t39_14.toNat ([] : List Bool)).length : Int)) <|
    ck (0 ≤ t73_21 ∧ t73_21 < ((t5_20.getD t24_6.toNat ([] : List Bool)).length : Int)) <|
    letO (α := List (List Bool)) (t5_20.set t24_6.toNat ((t5_20.getD t24_6.toNat ([] : List Bool)).set t73_21.toNat (((t5_20.getD t24_6.toNat ([] : List Bool)).getD t73_21.toNat false) || ((t5_20.getD t39_14.toNat ([] : List Bool)).getD t73_21.toNat false)))) fun t5_24 =>
    some (.inl (t5_24, arR .add .i64 t73_21 (1 : Int)))
  else
    some (.inr t5_20)
noncomputable def stamp_Ahead_L2 (t24_6 : Int) (t7_9 : (Int × Int × Int × Unit)) (t37_11 : List ((Int × Int × Int × Unit))) (t38_12 : Int) (t5_13 : List (List Bool)) (t39_14 : Int) : Option ((List (List Bool) × Int) ⊕ (List (List Bool))) :=
  if (decide (t39_14 < t38_12)) = true then
    ck (0 ≤ t39_14 ∧ t39_14 < (t37_11.length : Int)) <|
    letO (α := (Int × Int × Int × Unit)) (t37_11.getD t39_14.toNat ((0 : Int), (0 : Int), (0 : Int), ())) fun t9_17 =>
    if ((t9_17.1 == t7_9.1) || (((t7_9.2.1 == (3 : Int)) && (t9_17.2.1 == (2 : Int))) && (t9_17.2.2.1 == t7_9.2.2.1))) = true then
      ck (0 ≤ t24_6 ∧ t24_6 < (t5_13.length : Int)) <|
      ck (0 ≤ t39_14 ∧ t39_14 < ((t5_13.getD t24_6.toNat ([] : List Bool)).length : Int)) <|
      letO (α := List (List Bool)) (t5_13.set t24_6.toNat ((t5_13.getD t24_6.toNat ([] : List Bool)).set t39_14.toNat true)) fun t5_19 =>
      (loopO (fun x : List (List Bool) × Int => stamp_Ahead_L4 t24_6 t39_14 x.1 x.2) (t5_19, (0 : Int))).bind fun q_23 =>
      stamp_Ahead_J3 t39_14 q_23
    else
      stamp_Ahead_J3 t39_14 t5_13
  else
    some (.inr t5_13)
noncomputable def stamp_Ahead_L1 (t0_1 : List ((Int × Int × Int × Unit))) (t23_4 : Int) (t5_5 : List (List Bool)) (t24_6 : Int) : Option ((List (List Bool) × Int) ⊕ (List (List Bool))) :=
  if (decide (t24_6 < t23_4)) = true then
    ck (0 ≤ t24_6 ∧ t24_6 < (t0_1.length : Int)) <|
    letO (α := (Int × Int × Int × Unit)) (t0_1.getD t24_6.toNat ((0 : Int), (0 : Int), (0 : Int), ())) fun t7_9 =>
    ck (0 ≤ (0 : Int) ∧ (0 : Int) ≤ (t0_1.length : Int) ∧ (t0_1.length : Int) ≤ (t0_1.length : Int)) <|
    ck ((t0_1.length : Int) ≤ maxL) <|
    ck (0 ≤ t24_6 ∧ t24_6 < (t5_5.length : Int)) <|
    letO (α := List (List Bool)) (t5_5.set t24_6.toNat (List.replicate (t0_1.length : Int).toNat false)) fun t5_10 =>
    ck (0 ≤ (0 : Int) ∧ (0 : Int) ≤ t24_6 ∧ t24_6 ≤ (t0_1.length : Int)) <|
    letO (α := List ((Int × Int × Int × Unit))) ((t0_1.take t24_6.toNat).drop 0) fun t37_11 =>
    letO (α := Int) ((t37_11.length : Int)) fun t38_12 =>
    (loopO (fun x : List (List Bool) × Int => stamp_Ahead_L2 t24_6 t7_9 t37_11 t38_12 x.1 x.2) (t5_10, (0 : Int))).bind fun q_16 =>
    some (.inl (q_16, arR .add .i64 t24_6 (1 : Int)))
  else
    some (.inr t5_5)
noncomputable def stamp_Ahead_J7 (t108_32 : Int) (t11_35 : List ((Int × Int × Unit))) : Option ((List ((Int × Int × Unit)) × Int) ⊕ (List ((Int × Int × Unit)))) :=
  some (.inl (t11_35, arR .add .i64 t108_32 (1 : Int)))
noncomputable def stamp_Ahead_L6 (q_8 : List (List Bool)) (t103_27 : Int) (t107_30 : Int) (t11_31 : List ((Int × Int × Unit))) (t108_32 : Int) : Option ((List ((Int × Int × Unit)) × Int) ⊕ (List ((Int × Int × Unit)))) :=
  if (decide (t108_32 < t107_30)) = true then
    ck (0 ≤ t108_32 ∧ t108_32 < (q_8.length : Int)) <|
    ck (0 ≤ t103_27 ∧ t103_27 < ((q_8.getD t108_32.toNat ([] : List Bool)).length : Int)) <|
    if ((q_8.getD t108_32.toNat ([] : List Bool)).getD t103_27.toNat false) = true then
      ck ((t11_31.length : Int) + ([(t103_27, t108_32, ())].length : Int) ≤ maxL) <|
      stamp_Ahead_J7 t108_32 (t11_31 ++ [(t103_27, t108_32, ())])
    else
      stamp_Ahead_J7 t108_32 t11_31
  else
    some (.inr t11_31)
noncomputable def stamp_Ahead_L5 (t0_1 : List ((Int × Int × Int × Unit))) (q_8 : List (List Bool)) (t102_25 : Int) (t11_26 : List ((Int × Int × Unit))) (t103_27 : Int) : Option ((List ((Int × Int × Unit)) × Int) ⊕ (List ((Int × Int × Unit)))) :=
  if (decide (t103_27 < t102_25)) = true then
    letO (α := Int) ((t0_1.length : Int)) fun t107_30 =>
    (loopO (fun x : List ((Int × Int × Unit)) × Int => stamp_Ahead_L6 q_8 t103_27 t107_30 x.1 x.2) (t11_26, (0 : Int))).bind fun q_34 =>
    some (.inl (q_34, arR .add .i64 t103_27 (1 : Int)))
  else
    some (.inr t11_26)
noncomputable def stamp_Ahead (t0_1 : List ((Int × Int × Int × Unit))) : Option (List ((Int × Int × Unit)) × Int) :=
  (stamp_Check t0_1).bind fun r_2 =>
  if (r_2 != (0 : Int)) = true then
    some (([] : List ((Int × Int × Unit))), r_2)
  else
    ck (0 ≤ (0 : Int) ∧ (0 : Int) ≤ (t0_1.length : Int) ∧ (t0_1.length : Int) ≤ (t0_1.length : Int)) <|
    ck ((t0_1.length : Int) ≤ maxL) <|
    letO (α := List (List Bool)) (List.replicate (t0_1.length : Int).toNat ([] : List Bool)) fun t5_3 =>
    letO (α := Int) ((t0_1.length : Int)) fun t23_4 =>
    (loopO (fun x : List (List Bool) × Int => stamp_Ahead_L1 t0_1 t23_4 x.1 x.2) (t5_3, (0 : Int))).bind fun q_8 =>
    letO (α := Int) ((t0_1.length : Int)) fun t102_25 =>
    (loopO (fun x : List ((Int × Int × Unit)) × Int => stamp_Ahead_L5 t0_1 q_8 t102_25 x.1 x.2) (([] : List ((Int × Int × Unit))), (0 : Int))).bind fun q_29 =>
    some (q_29, (0 : Int))
noncomputable def slices_Index_LPair_Pair_L1 (s_1 : List ((Int × Int × Unit))) (v_2 : (Int × Int × Unit)) (t7_3 : Int) (t8_4 : Int) : Option ((Int) ⊕ ((Unit) ⊕ (Int))) :=
  if (decide (t8_4 < t7_3)) = true then
    ck (0 ≤ t8_4 ∧ t8_4 < (s_1.length : Int)) <|
    if (eqTIIE v_2 (s_1.getD t8_4.toNat ((0 : Int), (0 : Int), ()))) = true then
      some (.inr (.inr t8_4))
    else
      some (.inl (arR .add .i64 t8_4 (1 : Int)))
  else
    some (.inr (.inl ()))
noncomputable def slices_Index_LPair_Pair (s_1 : List ((Int × Int × Unit))) (v_2 : (Int × Int × Unit)) : Option (Int) :=
  letO (α := Int) ((s_1.length : Int)) fun t7_3 =>
  bindE (loopO (fun x : Int => slices_Index_LPair_Pair_L1 s_1 v_2 t7_3 x) (0 : Int)) fun q_5 =>
  some (-1 : Int)
noncomputable def slices_Contains_LPair_Pair (s_1 : List ((Int × Int × Unit))) (v_2 : (Int × Int × Unit)) : Option (Bool) :=
  (slices_Index_LPair_Pair s_1 v_2).bind fun r_3 =>
  some (decide (r_3 ≥ (0 : Int)))
noncomputable def VectTells_L2 (r_3 : List (List Int) × Int) (r_4 : List ((Int × Int × Unit)) × Int) (t59_6 : Int) (t63_8 : Int) (t64_9 : Int) : Option ((Int) ⊕ ((Unit) ⊕ ((Int) ⊕ ((Unit) ⊕ (Bool))))) :=
  if (decide (t64_9 < t63_8)) = true then
    (slices_Contains_LPair_Pair r_4.1 (t59_6, t64_9, ())).bind fun r_11 =>
    ck (0 ≤ t59_6 ∧ t59_6 < (r_3.1.length : Int)) <|
    ck (0 ≤ t64_9 ∧ t64_9 < (r_3.1.length : Int)) <|
    (vect_Compare (r_3.1.getD t59_6.toNat (List.replicate 6 (0 : Int))) (r_3.1.getD t64_9.toNat (List.replicate 6 (0 : Int)))).bind fun r_12 =>
    ck ((t59_6 != t64_9) = true → (!(!(eqB r_11 (r_12 == (1 : Int))))) = true → 0 ≤ t59_6 ∧ t59_6 < (r_3.1.length : Int)) <|
    ck ((t59_6 != t64_9) = true → (!(!(eqB r_11 (r_12 == (1 : Int))))) = true → 0 ≤ t64_9 ∧ t64_9 < (r_3.1.length : Int)) <|
    letO ((vect_Compare (r_3.1.getD t59_6.toNat (List.replicate 6 (0 : Int))) (r_3.1.getD t64_9.toNat (List.replicate 6 (0 : Int)))).getD (0 : Int)) fun r_13 =>
    ck ((t59_6 != t64_9) = true → (!(!(eqB r_11 (r_12 == (1 : Int))))) = true → (vect_Compare (r_3.1.getD t59_6.toNat (List.replicate 6 (0 : Int))) (r_3.1.getD t64_9.toNat (List.replicate 6 (0 : Int)))).isSome = true) <|
    if ((!(eqB r_11 (r_12 == (1 : Int)))) || ((t59_6 != t64_9) && (r_13 == (0 : Int)))) = true then
      some (.inr (.inr (.inr (.inr false))))
    else
      some (.inl (arR .add .i64 t64_9 (1 : Int)))
  else
    some (.inr (.inl ()))
noncomputable def VectTells_L1 (t0_1 : List ((Int × Int × Int × Unit))) (r_3 : List (List Int) × Int) (r_4 : List ((Int × Int × Unit)) × Int) (t58_5 : Int) (t59_6 : Int) : Option ((Int) ⊕ ((Unit) ⊕ (Bool))) :=
  if (decide (t59_6 < t58_5)) = true then
    letO (α := Int) ((t0_1.length : Int)) fun t63_8 =>
    bindE (loopO (fun x : Int => VectTells_L2 r_3 r_4 t59_6 t63_8 x) (0 : Int)) fun q_10 =>
    some (.inl (arR .add .i64 t59_6 (1 : Int)))
  else
    some (.inr (.inl ()))
noncomputable def VectTells (t0_1 : List ((Int × Int × Int × Unit))) : Option (Bool) :=
  (vect_Vectors [((0 : Int), (2 : Int), (0 : Int), ()), ((1 : Int), (3 : Int), (0 : Int), ())]).bind fun r_2 =>
  ck ((!((r_2.2 != (0 : Int)) || ((r_2.1.length : Int) != (2 : Int)))) = true → 0 ≤ (1 : Int) ∧ (1 : Int) < (r_2.1.length : Int)) <|
  if (((r_2.2 != (0 : Int)) || ((r_2.1.length : Int) != (2 : Int))) || (!(eqA6I (r_2.1.getD 1 (List.replicate 6 (0 : Int))) [(1 : Int), (1 : Int), (0 : Int), (0 : Int), (0 : Int), (0 : Int)]))) = true then
    some false
  else
    (vect_Vectors t0_1).bind fun r_3 =>
    (stamp_Ahead t0_1).bind fun r_4 =>
    if ((r_3.2 != (0 : Int)) || (r_4.2 != (0 : Int))) = true then
      some ((r_3.2 == r_4.2) && ((r_3.1.length : Int) == (0 : Int)))
    else
      letO (α := Int) ((t0_1.length : Int)) fun t58_5 =>
      bindE (loopO (fun x : Int => VectTells_L1 t0_1 r_3 r_4 t58_5 x) (0 : Int)) fun q_7 =>
      some true
noncomputable def slices_Equal_Lint_int_L1 (s1_1 : List Int) (s2_2 : List Int) (t12_3 : Int) (t13_4 : Int) : Option ((Int) ⊕ ((Unit) ⊕ (Bool))) :=
  if (decide (t13_4 < t12_3)) = true then
    ck (0 ≤ t13_4 ∧ t13_4 < (s1_1.length : Int)) <|
    ck (0 ≤ t13_4 ∧ t13_4 < (s2_2.length : Int)) <|
    if ((s1_1.getD t13_4.toNat (0 : Int)) != (s2_2.getD t13_4.toNat (0 : Int))) = true then
      some (.inr (.inr false))
    else
      some (.inl (arR .add .i64 t13_4 (1 : Int)))
  else
    some (.inr (.inl ()))
noncomputable def slices_Equal_Lint_int (s1_1 : List Int) (s2_2 : List Int) : Option (Bool) :=
  if ((s1_1.length : Int) != (s2_2.length : Int)) = true then
    some false
  else
    letO (α := Int) ((s1_1.length : Int)) fun t12_3 =>
    bindE (loopO (fun x : Int => slices_Equal_Lint_int_L1 s1_1 s2_2 t12_3 x) (0 : Int)) fun q_5 =>
    some true
noncomputable def R_Rest (a_1 : Int) (n_2 : Int) : Option (Int) :=
  if (decide (n_2 ≤ (0 : Int))) = true then
    some (0 : Int)
  else
    ck (n_2 ≠ 0) <|
    ck (n_2 ≠ 0) <|
    some (arR .rem .i64 (arR .add .i64 (arR .rem .i64 a_1 n_2) n_2) n_2)
noncomputable def StampBound_L1 (r_5 : List Int × Int) (t38_6 : Int) (t39_7 : Int) : Option ((Int) ⊕ ((Unit) ⊕ (Bool))) :=
  if (decide (t39_7 < t38_6)) = true then
    ck (0 ≤ t39_7 ∧ t39_7 < (r_5.1.length : Int)) <|
    letO (α := Int) (r_5.1.getD t39_7.toNat (0 : Int)) fun t10_9 =>
    if ((decide (t10_9 < (1 : Int))) || (decide (t10_9 > (arR .add .i64 t39_7 (1 : Int))))) = true then
      some (.inr (.inr false))
    else
      some (.inl (arR .add .i64 t39_7 (1 : Int)))
  else
    some (.inr (.inl ()))
noncomputable def StampBound_L2 (t57_12 : Int) (t11_13 : List ((Int × Int × Int × Unit))) (t58_14 : Int) : Option ((List ((Int × Int × Int × Unit)) × Int) ⊕ (List ((Int × Int × Int × Unit)))) :=
  if (decide (t58_14 < t57_12)) = true then
    ck (0 ≤ t58_14 ∧ t58_14 < (t11_13.length : Int)) <|
    letO (α := List ((Int × Int × Int × Unit))) (t11_13.set t58_14.toNat ((t11_13.getD t58_14.toNat ((0 : Int), (0 : Int), (0 : Int), ())).1, (1 : Int), (t11_13.getD t58_14.toNat ((0 : Int), (0 : Int), (0 : Int), ())).2.2.1, ())) fun t11_17 =>
    some (.inl (t11_17, arR .add .i64 t58_14 (1 : Int)))
  else
    some (.inr t11_13)
noncomputable def StampBound_L3 (r_18 : List Int × Int) (t72_19 : Int) (t73_20 : Int) : Option ((Int) ⊕ ((Unit) ⊕ (Bool))) :=
  if (decide (t73_20 < t72_19)) = true then
    ck (0 ≤ t73_20 ∧ t73_20 < (r_18.1.length : Int)) <|
    letO (α := Int) (r_18.1.getD t73_20.toNat (0 : Int)) fun t16_22 =>
    if (t16_22 != (arR .add .i64 t73_20 (1 : Int))) = true then
      some (.inr (.inr false))
    else
      some (.inl (arR .add .i64 t73_20 (1 : Int)))
  else
    some (.inr (.inl ()))
noncomputable def StampBound (t0_1 : List ((Int × Int × Int × Unit))) (t1_2 : Int) : Option (Bool) :=
  (stamp_Stamps [((0 : Int), (1 : Int), (0 : Int), ()), ((0 : Int), (1 : Int), (0 : Int), ())]).bind fun r_3 =>
  letO ((slices_Equal_Lint_int r_3.1 [(1 : Int), (2 : Int)]).getD false) fun r_4 =>
  ck ((!(r_3.2 != (0 : Int))) = true → (slices_Equal_Lint_int r_3.1 [(1 : Int), (2 : Int)]).isSome = true) <|
  if ((r_3.2 != (0 : Int)) || (!r_4)) = true then
    some false
  else
    (stamp_Stamps t0_1).bind fun r_5 =>
    letO (α := Int) ((r_5.1.length : Int)) fun t38_6 =>
    bindE (loopO (fun x : Int => StampBound_L1 r_5 t38_6 x) (0 : Int)) fun q_8 =>
    (R_Rest t1_2 (61 : Int)).bind fun r_10 =>
    ck (0 ≤ (0 : Int) ∧ (0 : Int) ≤ r_10 ∧ r_10 ≤ r_10) <|
    ck (r_10 ≤ maxL) <|
    letO (α := List ((Int × Int × Int × Unit))) (List.replicate r_10.toNat ((0 : Int), (0 : Int), (0 : Int), ())) fun t11_11 =>
    letO (α := Int) ((t11_11.length : Int)) fun t57_12 =>
    (loopO (fun x : List ((Int × Int × Int × Unit)) × Int => StampBound_L2 t57_12 x.1 x.2) (t11_11, (0 : Int))).bind fun q_16 =>
    (stamp_Stamps q_16).bind fun r_18 =>
    letO (α := Int) ((r_18.1.length : Int)) fun t72_19 =>
    bindE (loopO (fun x : Int => StampBound_L3 r_18 t72_19 x) (0 : Int)) fun q_21 =>
    some (((r_18.2 == (0 : Int)) && ((r_18.1.length : Int) == (q_16.length : Int))) && ((r_5.2 != (0 : Int)) || ((r_5.1.length : Int) == (t0_1.length : Int))))
noncomputable def StampAhead_L1 (r_4 : List Int × Int) (r_5 : List ((Int × Int × Unit)) × Int) (t59_6 : Int) (t60_7 : Int) : Option ((Int) ⊕ ((Unit) ⊕ (Bool))) :=
  if (decide (t60_7 < t59_6)) = true then
    ck (0 ≤ t60_7 ∧ t60_7 < (r_5.1.length : Int)) <|
    letO (α := (Int × Int × Unit)) (r_5.1.getD t60_7.toNat ((0 : Int), (0 : Int), ())) fun t10_9 =>
    ck (0 ≤ t10_9.1 ∧ t10_9.1 < (r_4.1.length : Int)) <|
    ck (0 ≤ t10_9.2.1 ∧ t10_9.2.1 < (r_4.1.length : Int)) <|
    if (decide ((r_4.1.getD t10_9.1.toNat (0 : Int)) ≥ (r_4.1.getD t10_9.2.1.toNat (0 : Int)))) = true then
      some (.inr (.inr false))
    else
      some (.inl (arR .add .i64 t60_7 (1 : Int)))
  else
    some (.inr (.inl ()))
noncomputable def StampAhead_L3 (r_4 : List Int × Int) (t78_11 : Int) (t12_13 : (Int × Int × Int × Unit)) (t85_14 : List ((Int × Int × Int × Unit))) (t86_15 : Int) (t87_16 : Int) : Option ((Int) ⊕ ((Unit) ⊕ ((Int) ⊕ ((Unit) ⊕ (Bool))))) :=
  if (decide (t87_16 < t86_15)) = true then
    ck (0 ≤ t87_16 ∧ t87_16 < (t85_14.length : Int)) <|
    letO (α := (Int × Int × Int × Unit)) (t85_14.getD t87_16.toNat ((0 : Int), (0 : Int), (0 : Int), ())) fun t14_18 =>
    ck ((t12_13.1 == t14_18.1) = true → 0 ≤ t78_11 ∧ t78_11 < (r_4.1.length : Int)) <|
    ck ((t12_13.1 == t14_18.1) = true → 0 ≤ t87_16 ∧ t87_16 < (r_4.1.length : Int)) <|
    if ((t12_13.1 == t14_18.1) && ((r_4.1.getD t78_11.toNat (0 : Int)) == (r_4.1.getD t87_16.toNat (0 : Int)))) = true then
      some (.inr (.inr (.inr (.inr false))))
    else
      some (.inl (arR .add .i64 t87_16 (1 : Int)))
  else
    some (.inr (.inl ()))
noncomputable def StampAhead_L2 (t0_1 : List ((Int × Int × Int × Unit))) (r_4 : List Int × Int) (t77_10 : Int) (t78_11 : Int) : Option ((Int) ⊕ ((Unit) ⊕ (Bool))) :=
  if (decide (t78_11 < t77_10)) = true then
    ck (0 ≤ t78_11 ∧ t78_11 < (t0_1.length : Int)) <|
    letO (α := (Int × Int × Int × Unit)) (t0_1.getD t78_11.toNat ((0 : Int), (0 : Int), (0 : Int), ())) fun t12_13 =>
    ck (0 ≤ (0 : Int) ∧ (0 : Int) ≤ t78_11 ∧ t78_11 ≤ (t0_1.length : Int)) <|
    letO (α := List ((Int × Int × Int × Unit))) ((t0_1.take t78_11.toNat).drop 0) fun t85_14 =>
    letO (α := Int) ((t85_14.length : Int)) fun t86_15 =>
    bindE (loopO (fun x : Int => StampAhead_L3 r_4 t78_11 t12_13 t85_14 t86_15 x) (0 : Int)) fun q_17 =>
    some (.inl (arR .add .i64 t78_11 (1 : Int)))
  else
    some (.inr (.inl ()))
noncomputable def StampAhead (t0_1 : List ((Int × Int × Int × Unit))) : Option (Bool) :=
  (stamp_Stamps [((0 : Int), (2 : Int), (0 : Int), ()), ((1 : Int), (1 : Int), (0 : Int), ()), ((1 : Int), (3 : Int), (0 : Int), ())]).bind fun r_2 =>
  letO ((slices_Equal_Lint_int r_2.1 [(1 : Int), (1 : Int), (2 : Int)]).getD false) fun r_3 =>
  ck ((!(r_2.2 != (0 : Int))) = true → (slices_Equal_Lint_int r_2.1 [(1 : Int), (1 : Int), (2 : Int)]).isSome = true) <|
  if ((r_2.2 != (0 : Int)) || (!r_3)) = true then
    some false
  else
    (stamp_Stamps t0_1).bind fun r_4 =>
    (stamp_Ahead t0_1).bind fun r_5 =>
    if ((r_4.2 != (0 : Int)) || (r_5.2 != (0 : Int))) = true then
      some ((r_4.2 == r_5.2) && ((arR .add .i64 (r_4.1.length : Int) (r_5.1.length : Int)) == (0 : Int)))
    else
      letO (α := Int) ((r_5.1.length : Int)) fun t59_6 =>
      bindE (loopO (fun x : Int => StampAhead_L1 r_4 r_5 t59_6 x) (0 : Int)) fun q_8 =>
      letO (α := Int) ((t0_1.length : Int)) fun t77_10 =>
      bindE (loopO (fun x : Int => StampAhead_L2 t0_1 r_4 t77_10 x) (0 : Int)) fun q_12 =>
      some ((r_4.1.length : Int) == (t0_1.length : Int))
noncomputable def slices_Equal_LVector_Vector_L1 (s1_1 : List (List Int)) (s2_2 : List (List Int)) (t12_3 : Int) (t13_4 : Int) : Option ((Int) ⊕ ((Unit) ⊕ (Bool))) :=
  if (decide (t13_4 < t12_3)) = true then
    ck (0 ≤ t13_4 ∧ t13_4 < (s1_1.length : Int)) <|
    ck (0 ≤ t13_4 ∧ t13_4 < (s2_2.length : Int)) <|
    if (!(eqA6I (s1_1.getD t13_4.toNat (List.replicate 6 (0 : Int))) (s2_2.getD t13_4.toNat (List.replicate 6 (0 : Int))))) = true then
      some (.inr (.inr false))
    else
      some (.inl (arR .add .i64 t13_4 (1 : Int)))
  else
    some (.inr (.inl ()))
noncomputable def slices_Equal_LVector_Vector (s1_1 : List (List Int)) (s2_2 : List (List Int)) : Option (Bool) :=
  if ((s1_1.length : Int) != (s2_2.length : Int)) = true then
    some false
  else
    letO (α := Int) ((s1_1.length : Int)) fun t12_3 =>
    bindE (loopO (fun x : Int => slices_Equal_LVector_Vector_L1 s1_1 s2_2 t12_3 x) (0 : Int)) fun q_5 =>
    some true
noncomputable def StampFront (t0_1 : List ((Int × Int × Int × Unit))) (t1_2 : Int) : Option (Bool) :=
  (stamp_Stamps [((0 : Int), (1 : Int), (0 : Int), ())]).bind fun r_3 =>
  letO ((slices_Equal_Lint_int r_3.1 [(1 : Int)]).getD false) fun r_4 =>
  ck ((!(r_3.2 != (0 : Int))) = true → (slices_Equal_Lint_int r_3.1 [(1 : Int)]).isSome = true) <|
  if ((r_3.2 != (0 : Int)) || (!r_4)) = true then
    some false
  else
    (stamp_Stamps t0_1).bind fun r_5 =>
    (vect_Vectors t0_1).bind fun r_6 =>
    if ((r_5.2 != (0 : Int)) || (r_6.2 != (0 : Int))) = true then
      some (r_5.2 == r_6.2)
    else
      (R_Rest t1_2 (arR .add .i64 (t0_1.length : Int) (1 : Int))).bind fun r_7 =>
      ck (0 ≤ (0 : Int) ∧ (0 : Int) ≤ r_7 ∧ r_7 ≤ (t0_1.length : Int)) <|
      (stamp_Stamps ((t0_1.take r_7.toNat).drop 0)).bind fun r_8 =>
      ck (0 ≤ (0 : Int) ∧ (0 : Int) ≤ r_7 ∧ r_7 ≤ (t0_1.length : Int)) <|
      (vect_Vectors ((t0_1.take r_7.toNat).drop 0)).bind fun r_9 =>
      ck (((r_8.2 == (0 : Int)) && (r_9.2 == (0 : Int))) = true → 0 ≤ (0 : Int) ∧ (0 : Int) ≤ r_7 ∧ r_7 ≤ (r_5.1.length : Int)) <|
      letO ((slices_Equal_Lint_int r_8.1 ((r_5.1.take r_7.toNat).drop 0)).getD false) fun r_10 =>
      ck (((r_8.2 == (0 : Int)) && (r_9.2 == (0 : Int))) = true → (slices_Equal_Lint_int r_8.1 ((r_5.1.take r_7.toNat).drop 0)).isSome = true) <|
      ck ((((r_8.2 == (0 : Int)) && (r_9.2 == (0 : Int))) && r_10) = true → 0 ≤ (0 : Int) ∧ (0 : Int) ≤ r_7 ∧ r_7 ≤ (r_6.1.length : Int)) <|
      letO ((slices_Equal_LVector_Vector r_9.1 ((r_6.1.take r_7.toNat).drop 0)).getD false) fun r_11 =>
      ck ((((r_8.2 == (0 : Int)) && (r_9.2 == (0 : Int))) && r_10) = true → (slices_Equal_LVector_Vector r_9.1 ((r_6.1.take r_7.toNat).drop 0)).isSome = true) <|
      some ((((r_8.2 == (0 : Int)) && (r_9.2 == (0 : Int))) && r_10) && r_11)
noncomputable def slices_Equal_LPair_Pair_L1 (s1_1 : List ((Int × Int × Unit))) (s2_2 : List ((Int × Int × Unit))) (t12_3 : Int) (t13_4 : Int) : Option ((Int) ⊕ ((Unit) ⊕ (Bool))) :=
  if (decide (t13_4 < t12_3)) = true then
    ck (0 ≤ t13_4 ∧ t13_4 < (s1_1.length : Int)) <|
    ck (0 ≤ t13_4 ∧ t13_4 < (s2_2.length : Int)) <|
    if (!(eqTIIE (s1_1.getD t13_4.toNat ((0 : Int), (0 : Int), ())) (s2_2.getD t13_4.toNat ((0 : Int), (0 : Int), ())))) = true then
      some (.inr (.inr false))
    else
      some (.inl (arR .add .i64 t13_4 (1 : Int)))
  else
    some (.inr (.inl ()))
noncomputable def slices_Equal_LPair_Pair (s1_1 : List ((Int × Int × Unit))) (s2_2 : List ((Int × Int × Unit))) : Option (Bool) :=
  if ((s1_1.length : Int) != (s2_2.length : Int)) = true then
    some false
  else
    letO (α := Int) ((s1_1.length : Int)) fun t12_3 =>
    bindE (loopO (fun x : Int => slices_Equal_LPair_Pair_L1 s1_1 s2_2 t12_3 x) (0 : Int)) fun q_5 =>
    some true
noncomputable def StampLong_1 (x_1 : (Int × Int × Unit)) (t1_2 : Int) (t2_3 : List Int) (t3_4 : Int) : Option (Bool) :=
  ck ((x_1.2.1 == t1_2) = true → 0 ≤ x_1.1 ∧ x_1.1 < (t2_3.length : Int)) <|
  some ((x_1.2.1 == t1_2) && ((t2_3.getD x_1.1.toNat (0 : Int)) == (arR .sub .i64 t3_4 (1 : Int))))
noncomputable def slices_IndexFunc_LPair_Pair_1_25_L1 (s_1 : List ((Int × Int × Unit))) (f_2 : (Int × List Int × Int × Unit)) (t7_3 : Int) (t8_4 : Int) : Option ((Int) ⊕ ((Unit) ⊕ (Int))) :=
  if (decide (t8_4 < t7_3)) = true then
    ck (0 ≤ t8_4 ∧ t8_4 < (s_1.length : Int)) <|
    (StampLong_1 (s_1.getD t8_4.toNat ((0 : Int), (0 : Int), ())) f_2.1 f_2.2.1 f_2.2.2.1).bind fun r_6 =>
    if (r_6) = true then
      some (.inr (.inr t8_4))
    else
      some (.inl (arR .add .i64 t8_4 (1 : Int)))
  else
    some (.inr (.inl ()))
noncomputable def slices_IndexFunc_LPair_Pair_1_25 (s_1 : List ((Int × Int × Unit))) (f_2 : (Int × List Int × Int × Unit)) : Option (Int) :=
  letO (α := Int) ((s_1.length : Int)) fun t7_3 =>
  bindE (loopO (fun x : Int => slices_IndexFunc_LPair_Pair_1_25_L1 s_1 f_2 t7_3 x) (0 : Int)) fun q_5 =>
  some (-1 : Int)
noncomputable def slices_ContainsFunc_LPair_Pair_1_25 (s_1 : List ((Int × Int × Unit))) (f_2 : (Int × List Int × Int × Unit)) : Option (Bool) :=
  (slices_IndexFunc_LPair_Pair_1_25 s_1 (f_2.1, f_2.2.1, f_2.2.2.1, ())).bind fun r_3 =>
  some (decide (r_3 ≥ (0 : Int)))
noncomputable def StampLong_L1 (r_4 : List Int × Int) (r_5 : List ((Int × Int × Unit)) × Int) (t47_6 : Int) (t48_7 : Int) : Option ((Int) ⊕ ((Unit) ⊕ (Bool))) :=
  if (decide (t48_7 < t47_6)) = true then
    ck (0 ≤ t48_7 ∧ t48_7 < (r_4.1.length : Int)) <|
    letO (α := Int) (r_4.1.getD t48_7.toNat (0 : Int)) fun n_9 =>
    letO ((slices_ContainsFunc_LPair_Pair_1_25 r_5.1 (t48_7, r_4.1, n_9, ())).getD false) fun r_10 =>
    ck ((decide (n_9 > (1 : Int))) = true → (slices_ContainsFunc_LPair_Pair_1_25 r_5.1 (t48_7, r_4.1, n_9, ())).isSome = true) <|
    if ((decide (n_9 > (1 : Int))) && (!r_10)) = true then
      some (.inr (.inr false))
    else
      some (.inl (arR .add .i64 t48_7 (1 : Int)))
  else
    some (.inr (.inl ()))
noncomputable def StampLong (h_1 : List ((Int × Int × Int × Unit))) : Option (Bool) :=
  (stamp_Ahead [((0 : Int), (1 : Int), (0 : Int), ()), ((0 : Int), (1 : Int), (0 : Int), ())]).bind fun r_2 =>
  letO ((slices_Equal_LPair_Pair r_2.1 [((0 : Int), (1 : Int), ())]).getD false) fun r_3 =>
  ck ((!(r_2.2 != (0 : Int))) = true → (slices_Equal_LPair_Pair r_2.1 [((0 : Int), (1 : Int), ())]).isSome = true) <|
  if ((r_2.2 != (0 : Int)) || (!r_3)) = true then
    some false
  else
    (stamp_Stamps h_1).bind fun r_4 =>
    (stamp_Ahead h_1).bind fun r_5 =>
    if ((r_4.2 != (0 : Int)) || (r_5.2 != (0 : Int))) = true then
      some (r_4.2 == r_5.2)
    else
      letO (α := Int) ((r_4.1.length : Int)) fun t47_6 =>
      bindE (loopO (fun x : Int => StampLong_L1 r_4 r_5 t47_6 x) (0 : Int)) fun q_8 =>
      some true
end Go.Proofs.Ytdahfpfkjljojaa.Vc
