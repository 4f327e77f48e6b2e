/- Functions of the program as functions that may fail, and that the code computes them (printed). Each theorem bears its conditions itself. -/
import Derived.Test.YtdahfpfkjljojaaSyf
open Go Go.Proofs.Ytdahfpfkjljojaa.Sy
set_option maxHeartbeats 4000000
set_option maxRecDepth 100000
set_option cbv.maxSteps 10000000
set_option linter.unusedVariables false
set_option linter.unusedSimpArgs false
namespace Go.Proofs.Ytdahfpfkjljojaa.Ct
def eqA6I (x y : List Int) : Bool := PT.eqb (.arr 6 (.int .i64)) x y
theorem eqA6I_iff (x y : List Int) : eqA6I x y = true ↔ x = y := eqb_iff (.arr 6 (.int .i64)) rfl x y
def eqB (x y : Bool) : Bool := PT.eqb (.bool) x y
theorem eqB_iff (x y : Bool) : eqB x y = true ↔ x = y := eqb_iff (.bool) rfl x y
def mgetA6II (m : List (List Int × Int)) (k : List Int) : Int := mgetL (.arr 6 (.int .i64)) (.int .i64) m k
def msetA6II (m : List (List Int × Int)) (k : List Int) (v : Int) : List (List Int × Int) := msetL (.arr 6 (.int .i64)) (.int .i64) m k v
noncomputable def sent  : Option (List ((Int × Int × Int × Unit))) :=
  some [((0 : Int), (2 : Int), (0 : Int), ()), ((1 : Int), (3 : Int), (0 : Int), ())]
noncomputable def stamp_Check_J2 (t12_7 : Int) (t3_10 : List Int) (t4_11 : List (List Bool)) : Option ((List Int × List (List Bool) × Int) ⊕ ((Unit) ⊕ (Int))) :=
  some (.inl (t3_10, t4_11, arR .add .i64 t12_7 (1 : Int)))
noncomputable def stamp_Check_L1 (t0_1 : List ((Int × Int × Int × Unit))) (t11_4 : Int) (t3_5 : List Int) (t4_6 : List (List Bool)) (t12_7 : Int) : Option ((List Int × List (List Bool) × Int) ⊕ ((Unit) ⊕ (Int))) :=
  if (decide (t12_7 < t11_4)) = true then
    ck (0 ≤ t12_7 ∧ t12_7 < (t0_1.length : Int)) <|
    letO (α := (Int × Int × Int × Unit)) (t0_1.getD t12_7.toNat ((0 : Int), (0 : Int), (0 : Int), ())) fun t6_9 =>
    if ((((decide (t6_9.1 < (0 : Int))) || (decide (t6_9.1 ≥ (6 : Int)))) || (decide (t6_9.2.2.1 < (0 : Int)))) || (decide (t6_9.2.2.1 ≥ (30 : Int)))) = true then
      some (.inr (.inr (1 : Int)))
    else
      if (t6_9.2.1 == (1 : Int)) = true then
        if (t6_9.2.2.1 != (0 : Int)) = true then
          some (.inr (.inr (4 : Int)))
        else
          stamp_Check_J2 t12_7 t3_5 t4_6
      else
        if (t6_9.2.1 == (2 : Int)) = true then
          ck (0 ≤ t6_9.2.2.1 ∧ t6_9.2.2.1 < 30) <|
          if ((t3_5.getD t6_9.2.2.1.toNat (0 : Int)) != (0 : Int)) = true then
            some (.inr (.inr (4 : Int)))
          else
            ck (0 ≤ t6_9.2.2.1 ∧ t6_9.2.2.1 < 30) <|
            stamp_Check_J2 t12_7 (t3_5.set t6_9.2.2.1.toNat (arR .add .i64 t6_9.1 (1 : Int))) t4_6
        else
          if (t6_9.2.1 == (3 : Int)) = true then
            ck (0 ≤ t6_9.2.2.1 ∧ t6_9.2.2.1 < 30) <|
            ck ((!((t3_5.getD t6_9.2.2.1.toNat (0 : Int)) == (0 : Int))) = true → 0 ≤ t6_9.2.2.1 ∧ t6_9.2.2.1 < 30) <|
            ck ((!(((t3_5.getD t6_9.2.2.1.toNat (0 : Int)) == (0 : Int)) || ((t3_5.getD t6_9.2.2.1.toNat (0 : Int)) == (arR .add .i64 t6_9.1 (1 : Int))))) = true → 0 ≤ t6_9.2.2.1 ∧ t6_9.2.2.1 < 30) <|
            ck ((!(((t3_5.getD t6_9.2.2.1.toNat (0 : Int)) == (0 : Int)) || ((t3_5.getD t6_9.2.2.1.toNat (0 : Int)) == (arR .add .i64 t6_9.1 (1 : Int))))) = true → 0 ≤ t6_9.1 ∧ t6_9.1 < 6) <|
            if ((((t3_5.getD t6_9.2.2.1.toNat (0 : Int)) == (0 : Int)) || ((t3_5.getD t6_9.2.2.1.toNat (0 : Int)) == (arR .add .i64 t6_9.1 (1 : Int)))) || ((t4_6.getD t6_9.2.2.1.toNat (List.replicate 6 false)).getD t6_9.1.toNat false)) = true then
              some (.inr (.inr (4 : Int)))
            else
              ck (0 ≤ t6_9.2.2.1 ∧ t6_9.2.2.1 < 30) <|
              ck (0 ≤ t6_9.1 ∧ t6_9.1 < 6) <|
              stamp_Check_J2 t12_7 t3_5 (t4_6.set t6_9.2.2.1.toNat ((t4_6.getD t6_9.2.2.1.toNat (List.replicate 6 false)).set t6_9.1.toNat true))
          else
            some (.inr (.inr (4 : Int)))
  else
    some (.inr (.inl ()))
noncomputable def stamp_Check (t0_1 : List ((Int × Int × Int × Unit))) : Option (Int) :=
  if (decide ((t0_1.length : Int) > (60 : Int))) = true then
    some (2 : Int)
  else
    letO (α := List Int) (List.replicate 30 (0 : Int)) fun t3_2 =>
    letO (α := List (List Bool)) (List.replicate 30 (List.replicate 6 false)) fun t4_3 =>
    letO (α := Int) ((t0_1.length : Int)) fun t11_4 =>
    bindE (loopO (fun x : List Int × List (List Bool) × Int => stamp_Check_L1 t0_1 t11_4 x.1 x.2.1 x.2.2) (t3_2, t4_3, (0 : Int))) fun q_8 =>
    some (0 : Int)
noncomputable def vect_Within_L1 (a_1 : List Int) (b_2 : List Int) (t6_3 : Int) : Option ((Int) ⊕ ((Unit) ⊕ (Bool))) :=
  if (decide (t6_3 < (6 : Int))) = true then
    ck (0 ≤ t6_3 ∧ t6_3 < 6) <|
    ck (0 ≤ t6_3 ∧ t6_3 < 6) <|
    if (decide ((a_1.getD t6_3.toNat (0 : Int)) > (b_2.getD t6_3.toNat (0 : Int)))) = true then
      some (.inr (.inr false))
    else
      some (.inl (arR .add .i64 t6_3 (1 : Int)))
  else
    some (.inr (.inl ()))
noncomputable def vect_Within (a_1 : List Int) (b_2 : List Int) : Option (Bool) :=
  bindE (loopO (fun x : Int => vect_Within_L1 a_1 b_2 x) (0 : Int)) fun q_4 =>
  some true
noncomputable def cut_sizes_L1 (h_1 : List ((Int × Int × Int × Unit))) (t7_4 : Int) (n_5 : List Int) (t8_6 : Int) : Option ((List Int × Int) ⊕ (List Int)) :=
  if (decide (t8_6 < t7_4)) = true then
    ck (0 ≤ t8_6 ∧ t8_6 < (h_1.length : Int)) <|
    letO (α := (Int × Int × Int × Unit)) (h_1.getD t8_6.toNat ((0 : Int), (0 : Int), (0 : Int), ())) fun x_9 =>
    ck (0 ≤ x_9.1 ∧ x_9.1 < 6) <|
    ck (0 ≤ x_9.1 ∧ x_9.1 < 6) <|
    letO (α := List Int) (n_5.set x_9.1.toNat (arR .add .i64 (n_5.getD x_9.1.toNat (0 : Int)) (1 : Int))) fun n_10 =>
    some (.inl (n_10, arR .add .i64 t8_6 (1 : Int)))
  else
    some (.inr n_5)
noncomputable def cut_sizes (h_1 : List ((Int × Int × Int × Unit))) : Option (List Int) :=
  letO (α := List Int) (List.replicate 6 (0 : Int)) fun t2_2 =>
  letO (α := List Int) (List.replicate 6 (0 : Int)) fun n_3 =>
  letO (α := Int) ((h_1.length : Int)) fun t7_4 =>
  (loopO (fun x : List Int × Int => cut_sizes_L1 h_1 t7_4 x.1 x.2) (n_3, (0 : Int))).bind fun q_8 =>
  some q_8
noncomputable def cut_Check (h_1 : List ((Int × Int × Int × Unit))) (c_2 : List Int) : Option (Int) :=
  (stamp_Check h_1).bind fun r_3 =>
  if (r_3 != (0 : Int)) = true then
    some r_3
  else
    (vect_Within [(0 : Int), (0 : Int), (0 : Int), (0 : Int), (0 : Int), (0 : Int)] c_2).bind fun r_4 =>
    letO ((cut_sizes h_1).getD (List.replicate 6 (0 : Int))) fun r_5 =>
    ck ((!(!r_4)) = true → (cut_sizes h_1).isSome = true) <|
    letO ((vect_Within c_2 r_5).getD false) fun r_6 =>
    ck ((!(!r_4)) = true → (vect_Within c_2 r_5).isSome = true) <|
    if ((!r_4) || (!r_6)) = true then
      some (1 : Int)
    else
      some (0 : Int)
noncomputable def vect_Max_L1 (b_2 : List Int) (a_4 : List Int) (t6_5 : Int) : Option ((List Int × Int) ⊕ (List Int)) :=
  if (decide (t6_5 < (6 : Int))) = true then
    ck (0 ≤ t6_5 ∧ t6_5 < 6) <|
    ck (0 ≤ t6_5 ∧ t6_5 < 6) <|
    ck (0 ≤ t6_5 ∧ t6_5 < 6) <|
    letO (α := List Int) (a_4.set t6_5.toNat (mxI (a_4.getD t6_5.toNat (0 : Int)) (b_2.getD t6_5.toNat (0 : Int)))) fun a_8 =>
    some (.inl (a_8, arR .add .i64 t6_5 (1 : Int)))
  else
    some (.inr a_4)
noncomputable def vect_Max (a_1 : List Int) (b_2 : List Int) : Option (List Int) :=
  letO (α := List Int) (List.replicate 6 (0 : Int)) fun t4_3 =>
  (loopO (fun x : List Int × Int => vect_Max_L1 b_2 x.1 x.2) (a_1, (0 : Int))).bind fun q_7 =>
  some q_7
noncomputable def vect_Vectors_J3 (out_8 : List (List Int)) (t18_9 : Int) (x_12 : (Int × Int × Int × Unit)) (clock_14 : List (List Int)) (sent_15 : List (List Int)) : Option ((List (List Int) × List (List Int) × List (List Int) × Int) ⊕ (List (List Int))) :=
  ck ((out_8.length : Int) + (([clock_14.getD x_12.1.toNat (List.replicate 6 (0 : Int))]).length : Int) ≤ maxL) <|
  letO (α := List (List Int)) (out_8 ++ ([clock_14.getD x_12.1.toNat (List.replicate 6 (0 : Int))])) fun out_16 =>
  some (.inl (clock_14, sent_15, out_16, arR .add .i64 t18_9 (1 : Int)))
noncomputable def vect_Vectors_J2 (sent_7 : List (List Int)) (out_8 : List (List Int)) (t18_9 : Int) (x_12 : (Int × Int × Int × Unit)) (clock_13 : List (List Int)) : Option ((List (List Int) × List (List Int) × List (List Int) × Int) ⊕ (List (List Int))) :=
  ck (0 ≤ x_12.1 ∧ x_12.1 < 6) <|
  ck (0 ≤ x_12.1 ∧ x_12.1 < 6) <|
  letO (α := List (List Int)) (clock_13.set x_12.1.toNat ((clock_13.getD x_12.1.toNat (List.replicate 6 (0 : Int))).set x_12.1.toNat (arR .add .i64 ((clock_13.getD x_12.1.toNat (List.replicate 6 (0 : Int))).getD x_12.1.toNat (0 : Int)) (1 : Int)))) fun clock_14 =>
  if (x_12.2.1 == (2 : Int)) = true then
    ck (0 ≤ x_12.2.2.1 ∧ x_12.2.2.1 < 30) <|
    vect_Vectors_J3 out_8 t18_9 x_12 clock_14 (sent_7.set x_12.2.2.1.toNat (clock_14.getD x_12.1.toNat (List.replicate 6 (0 : Int))))
  else
    vect_Vectors_J3 out_8 t18_9 x_12 clock_14 sent_7
noncomputable def vect_Vectors_L1 (h_1 : List ((Int × Int × Int × Unit))) (t17_5 : Int) (clock_6 : List (List Int)) (sent_7 : List (List Int)) (out_8 : List (List Int)) (t18_9 : Int) : Option ((List (List Int) × List (List Int) × List (List Int) × Int) ⊕ (List (List Int))) :=
  if (decide (t18_9 < t17_5)) = true then
    ck (0 ≤ t18_9 ∧ t18_9 < (h_1.length : Int)) <|
    letO (α := (Int × Int × Int × Unit)) (h_1.getD t18_9.toNat ((0 : Int), (0 : Int), (0 : Int), ())) fun x_12 =>
    ck (0 ≤ x_12.1 ∧ x_12.1 < 6) <|
    if (x_12.2.1 == (3 : Int)) = true then
      ck (0 ≤ x_12.2.2.1 ∧ x_12.2.2.1 < 30) <|
      (vect_Max (clock_6.getD x_12.1.toNat (List.replicate 6 (0 : Int))) (sent_7.getD x_12.2.2.1.toNat (List.replicate 6 (0 : Int)))).bind fun r_17 =>
      vect_Vectors_J2 sent_7 out_8 t18_9 x_12 (clock_6.set x_12.1.toNat r_17)
    else
      vect_Vectors_J2 sent_7 out_8 t18_9 x_12 clock_6
  else
    some (.inr out_8)
noncomputable def vect_Vectors (h_1 : List ((Int × Int × Int × Unit))) : Option (List (List Int) × Int) :=
  (stamp_Check h_1).bind fun r_2 =>
  if (r_2 != (0 : Int)) = true then
    some (([] : List (List Int)), r_2)
  else
    letO (α := List (List Int)) (List.replicate 6 (List.replicate 6 (0 : Int))) fun clock_3 =>
    letO (α := List (List Int)) (List.replicate 30 (List.replicate 6 (0 : Int))) fun sent_4 =>
    letO (α := Int) ((h_1.length : Int)) fun t17_5 =>
    (loopO (fun x : List (List Int) × List (List Int) × List (List Int) × Int => vect_Vectors_L1 h_1 t17_5 x.1 x.2.1 x.2.2.1 x.2.2.2) (clock_3, sent_4, ([] : List (List Int)), (0 : Int))).bind fun q_11 =>
    some (q_11, (0 : Int))
noncomputable def cut_story_L1 (h_1 : List ((Int × Int × Int × Unit))) (r_4 : List (List Int) × Int) (t14_5 : Int) (out_6 : List (List (List Int))) (t15_7 : Int) : Option ((List (List (List Int)) × Int) ⊕ (List (List (List Int)))) :=
  if (decide (t15_7 < t14_5)) = true then
    ck (0 ≤ t15_7 ∧ t15_7 < (h_1.length : Int)) <|
    letO (α := (Int × Int × Int × Unit)) (h_1.getD t15_7.toNat ((0 : Int), (0 : Int), (0 : Int), ())) fun x_10 =>
    ck (0 ≤ x_10.1 ∧ x_10.1 < 6) <|
    ck (0 ≤ t15_7 ∧ t15_7 < (r_4.1.length : Int)) <|
    ck (((out_6.getD x_10.1.toNat ([] : List (List Int))).length : Int) + (([r_4.1.getD t15_7.toNat (List.replicate 6 (0 : Int))]).length : Int) ≤ maxL) <|
    ck (0 ≤ x_10.1 ∧ x_10.1 < 6) <|
    letO (α := List (List (List Int))) (out_6.set x_10.1.toNat ((out_6.getD x_10.1.toNat ([] : List (List Int))) ++ ([r_4.1.getD t15_7.toNat (List.replicate 6 (0 : Int))]))) fun out_11 =>
    some (.inl (out_11, arR .add .i64 t15_7 (1 : Int)))
  else
    some (.inr out_6)
noncomputable def cut_story (h_1 : List ((Int × Int × Int × Unit))) : Option (List (List (List Int))) :=
  letO (α := List (List (List Int))) (List.replicate 6 ([] : List (List Int))) fun t2_2 =>
  letO (α := List (List (List Int))) (List.replicate 6 ([] : List (List Int))) fun out_3 =>
  (vect_Vectors h_1).bind fun r_4 =>
  letO (α := Int) ((h_1.length : Int)) fun t14_5 =>
  (loopO (fun x : List (List (List Int)) × Int => cut_story_L1 h_1 r_4 t14_5 x.1 x.2) (out_3, (0 : Int))).bind fun q_9 =>
  some q_9
noncomputable def cut_grow_J2 (t13_6 : Int) (out_10 : List Int) : Option ((List Int × Int) ⊕ (List Int)) :=
  some (.inl (out_10, arR .add .i64 t13_6 (1 : Int)))
noncomputable def cut_grow_L1 (c_2 : List Int) (r_4 : List (List (List Int))) (out_5 : List Int) (t13_6 : Int) : Option ((List Int × Int) ⊕ (List Int)) :=
  if (decide (t13_6 < (6 : Int))) = true then
    ck (0 ≤ t13_6 ∧ t13_6 < 6) <|
    letO (α := Int) (c_2.getD t13_6.toNat (0 : Int)) fun n_9 =>
    if (decide (n_9 > (0 : Int))) = true then
      ck (0 ≤ t13_6 ∧ t13_6 < 6) <|
      ck (0 ≤ (arR .sub .i64 n_9 (1 : Int)) ∧ (arR .sub .i64 n_9 (1 : Int)) < ((r_4.getD t13_6.toNat ([] : List (List Int))).length : Int)) <|
      (vect_Max out_5 ((r_4.getD t13_6.toNat ([] : List (List Int))).getD (arR .sub .i64 n_9 (1 : Int)).toNat (List.replicate 6 (0 : Int)))).bind fun r_11 =>
      cut_grow_J2 t13_6 r_11
    else
      cut_grow_J2 t13_6 out_5
  else
    some (.inr out_5)
noncomputable def cut_grow (h_1 : List ((Int × Int × Int × Unit))) (c_2 : List Int) : Option (List Int) :=
  letO (α := List Int) (List.replicate 6 (0 : Int)) fun t4_3 =>
  (cut_story h_1).bind fun r_4 =>
  (loopO (fun x : List Int × Int => cut_grow_L1 c_2 r_4 x.1 x.2) (c_2, (0 : Int))).bind fun q_8 =>
  some q_8
noncomputable def cut_Grow (h_1 : List ((Int × Int × Int × Unit))) (c_2 : List Int) : Option (List Int × Int) :=
  letO (α := List Int) (List.replicate 6 (0 : Int)) fun t4_3 =>
  (cut_Check h_1 c_2).bind fun r_4 =>
  if (r_4 != (0 : Int)) = true then
    some ([(0 : Int), (0 : Int), (0 : Int), (0 : Int), (0 : Int), (0 : Int)], r_4)
  else
    (cut_grow h_1 c_2).bind fun r_5 =>
    some (r_5, (0 : Int))
noncomputable def R_Sizes_L1 (h_1 : List ((Int × Int × Int × Unit))) (t7_4 : Int) (n_5 : List Int) (t8_6 : Int) : Option ((List Int × Int) ⊕ (List Int)) :=
  if (decide (t8_6 < t7_4)) = true then
    ck (0 ≤ t8_6 ∧ t8_6 < (h_1.length : Int)) <|
    letO (α := (Int × Int × Int × Unit)) (h_1.getD t8_6.toNat ((0 : Int), (0 : Int), (0 : Int), ())) fun x_9 =>
    ck (0 ≤ x_9.1 ∧ x_9.1 < 6) <|
    ck (0 ≤ x_9.1 ∧ x_9.1 < 6) <|
    letO (α := List Int) (n_5.set x_9.1.toNat (arR .add .i64 (n_5.getD x_9.1.toNat (0 : Int)) (1 : Int))) fun n_10 =>
    some (.inl (n_10, arR .add .i64 t8_6 (1 : Int)))
  else
    some (.inr n_5)
noncomputable def R_Sizes (h_1 : List ((Int × Int × Int × Unit))) : Option (List Int) :=
  letO (α := List Int) (List.replicate 6 (0 : Int)) fun t2_2 =>
  letO (α := List Int) (List.replicate 6 (0 : Int)) fun n_3 =>
  letO (α := Int) ((h_1.length : Int)) fun t7_4 =>
  (loopO (fun x : List Int × Int => R_Sizes_L1 h_1 t7_4 x.1 x.2) (n_3, (0 : Int))).bind fun q_8 =>
  some q_8
noncomputable def R_Rest (a_1 : Int) (n_2 : Int) : Option (Int) :=
  if (decide (n_2 ≤ (0 : Int))) = true then
    some (0 : Int)
  else
    ck (n_2 ≠ 0) <|
    ck (n_2 ≠ 0) <|
    some (arR .rem .i64 (arR .add .i64 (arR .rem .i64 a_1 n_2) n_2) n_2)
noncomputable def someCut_L1 (r_4 : List Int) (c_5 : List Int) (t9_6 : Int) : Option ((List Int × Int) ⊕ (List Int)) :=
  if (decide (t9_6 < (6 : Int))) = true then
    ck (0 ≤ t9_6 ∧ t9_6 < 6) <|
    letO (α := Int) (r_4.getD t9_6.toNat (0 : Int)) fun n_9 =>
    ck (0 ≤ t9_6 ∧ t9_6 < 6) <|
    (R_Rest (c_5.getD t9_6.toNat (0 : Int)) (arR .add .i64 n_9 (1 : Int))).bind fun r_10 =>
    ck (0 ≤ t9_6 ∧ t9_6 < 6) <|
    letO (α := List Int) (c_5.set t9_6.toNat r_10) fun c_11 =>
    some (.inl (c_11, arR .add .i64 t9_6 (1 : Int)))
  else
    some (.inr c_5)
noncomputable def someCut (h_1 : List ((Int × Int × Int × Unit))) (c_2 : List Int) : Option (List Int) :=
  letO (α := List Int) (List.replicate 6 (0 : Int)) fun t4_3 =>
  (R_Sizes h_1).bind fun r_4 =>
  (loopO (fun x : List Int × Int => someCut_L1 r_4 x.1 x.2) (c_2, (0 : Int))).bind fun q_8 =>
  some q_8
noncomputable def cut_Right (h_1 : List ((Int × Int × Int × Unit))) (c_2 : List Int) : Option (Bool × Int) :=
  (cut_Check h_1 c_2).bind fun r_3 =>
  if (r_3 != (0 : Int)) = true then
    some (false, r_3)
  else
    (cut_grow h_1 c_2).bind fun r_4 =>
    some (eqA6I r_4 c_2, (0 : Int))
noncomputable def CutGrows (t0_1 : List ((Int × Int × Int × Unit))) (t1_2 : List Int) (t2_3 : List Int) : Option (Bool) :=
  (sent).bind fun r_4 =>
  (cut_Grow r_4 [(0 : Int), (1 : Int), (0 : Int), (0 : Int), (0 : Int), (0 : Int)]).bind fun r_5 =>
  if ((r_5.2 != (0 : Int)) || (!(eqA6I r_5.1 [(1 : Int), (1 : Int), (0 : Int), (0 : Int), (0 : Int), (0 : Int)]))) = true then
    some false
  else
    (stamp_Check t0_1).bind fun r_6 =>
    if (r_6 != (0 : Int)) = true then
      some true
    else
      (someCut t0_1 t1_2).bind fun r_7 =>
      (someCut t0_1 t2_3).bind fun r_8 =>
      (cut_Grow t0_1 r_7).bind fun r_9 =>
      (cut_Right t0_1 r_9.1).bind fun r_10 =>
      (cut_Grow t0_1 r_9.1).bind fun r_11 =>
      (vect_Max r_7 r_8).bind fun r_12 =>
      (cut_Grow t0_1 r_12).bind fun r_13 =>
      letO ((vect_Within r_7 r_9.1).getD false) fun r_14 =>
      ck ((!((((((r_9.2 != (0 : Int)) || (r_10.2 != (0 : Int))) || (r_11.2 != (0 : Int))) || (r_13.2 != (0 : Int))) || (!r_10.1)) || (!(eqA6I r_11.1 r_9.1)))) = true → (vect_Within r_7 r_9.1).isSome = true) <|
      letO ((vect_Within r_9.1 r_13.1).getD false) fun r_15 =>
      ck ((!(((((((r_9.2 != (0 : Int)) || (r_10.2 != (0 : Int))) || (r_11.2 != (0 : Int))) || (r_13.2 != (0 : Int))) || (!r_10.1)) || (!(eqA6I r_11.1 r_9.1))) || (!r_14))) = true → (vect_Within r_9.1 r_13.1).isSome = true) <|
      if ((((((((r_9.2 != (0 : Int)) || (r_10.2 != (0 : Int))) || (r_11.2 != (0 : Int))) || (r_13.2 != (0 : Int))) || (!r_10.1)) || (!(eqA6I r_11.1 r_9.1))) || (!r_14)) || (!r_15)) = true then
        some false
      else
        (cut_Right t0_1 r_8).bind fun r_16 =>
        letO ((vect_Within r_7 r_8).getD false) fun r_17 =>
        ck (r_16.1 = true → (vect_Within r_7 r_8).isSome = true) <|
        letO ((vect_Within r_9.1 r_8).getD false) fun r_18 =>
        ck ((!(!(r_16.1 && r_17))) = true → (vect_Within r_9.1 r_8).isSome = true) <|
        some ((!(r_16.1 && r_17)) || r_18)
noncomputable def vect_Min_L1 (b_2 : List Int) (a_4 : List Int) (t6_5 : Int) : Option ((List Int × Int) ⊕ (List Int)) :=
  if (decide (t6_5 < (6 : Int))) = true then
    ck (0 ≤ t6_5 ∧ t6_5 < 6) <|
    ck (0 ≤ t6_5 ∧ t6_5 < 6) <|
    ck (0 ≤ t6_5 ∧ t6_5 < 6) <|
    letO (α := List Int) (a_4.set t6_5.toNat (mnI (a_4.getD t6_5.toNat (0 : Int)) (b_2.getD t6_5.toNat (0 : Int)))) fun a_8 =>
    some (.inl (a_8, arR .add .i64 t6_5 (1 : Int)))
  else
    some (.inr a_4)
noncomputable def vect_Min (a_1 : List Int) (b_2 : List Int) : Option (List Int) :=
  letO (α := List Int) (List.replicate 6 (0 : Int)) fun t4_3 =>
  (loopO (fun x : List Int × Int => vect_Min_L1 b_2 x.1 x.2) (a_1, (0 : Int))).bind fun q_7 =>
  some q_7
noncomputable def CutMeets (t0_1 : List ((Int × Int × Int × Unit))) (t1_2 : List Int) (t2_3 : List Int) : Option (Bool) :=
  (sent).bind fun r_4 =>
  (cut_Right r_4 [(0 : Int), (1 : Int), (0 : Int), (0 : Int), (0 : Int), (0 : Int)]).bind fun r_5 =>
  if ((r_5.2 != (0 : Int)) || r_5.1) = true then
    some false
  else
    (sent).bind fun r_6 =>
    (cut_Right r_6 [(1 : Int), (1 : Int), (0 : Int), (0 : Int), (0 : Int), (0 : Int)]).bind fun r_7 =>
    if ((r_7.2 != (0 : Int)) || (!r_7.1)) = true then
      some false
    else
      (stamp_Check t0_1).bind fun r_8 =>
      if (r_8 != (0 : Int)) = true then
        some true
      else
        (someCut t0_1 t1_2).bind fun r_9 =>
        (cut_Grow t0_1 r_9).bind fun r_10 =>
        (someCut t0_1 t2_3).bind fun r_11 =>
        (cut_Grow t0_1 r_11).bind fun r_12 =>
        (vect_Max r_10.1 r_12.1).bind fun r_13 =>
        (cut_Right t0_1 r_13).bind fun r_14 =>
        (vect_Min r_10.1 r_12.1).bind fun r_15 =>
        (cut_Right t0_1 r_15).bind fun r_16 =>
        some ((((((r_10.2 == (0 : Int)) && (r_12.2 == (0 : Int))) && (r_14.2 == (0 : Int))) && (r_16.2 == (0 : Int))) && r_14.1) && r_16.1)
noncomputable def cut_Shrink_L2 (c_2 : List Int) (r_5 : List (List (List Int))) (t20_7 : Int) (out_10 : List Int) : Option ((List Int) ⊕ (List Int)) :=
  ck (0 ≤ t20_7 ∧ t20_7 < 6) <|
  ck ((decide ((out_10.getD t20_7.toNat (0 : Int)) > (0 : Int))) = true → 0 ≤ t20_7 ∧ t20_7 < 6) <|
  ck ((decide ((out_10.getD t20_7.toNat (0 : Int)) > (0 : Int))) = true → 0 ≤ t20_7 ∧ t20_7 < 6) <|
  ck ((decide ((out_10.getD t20_7.toNat (0 : Int)) > (0 : Int))) = true → 0 ≤ (arR .sub .i64 (out_10.getD t20_7.toNat (0 : Int)) (1 : Int)) ∧ (arR .sub .i64 (out_10.getD t20_7.toNat (0 : Int)) (1 : Int)) < ((r_5.getD t20_7.toNat ([] : List (List Int))).length : Int)) <|
  letO ((vect_Within ((r_5.getD t20_7.toNat ([] : List (List Int))).getD (arR .sub .i64 (out_10.getD t20_7.toNat (0 : Int)) (1 : Int)).toNat (List.replicate 6 (0 : Int))) c_2).getD false) fun r_13 =>
  ck ((decide ((out_10.getD t20_7.toNat (0 : Int)) > (0 : Int))) = true → (vect_Within ((r_5.getD t20_7.toNat ([] : List (List Int))).getD (arR .sub .i64 (out_10.getD t20_7.toNat (0 : Int)) (1 : Int)).toNat (List.replicate 6 (0 : Int))) c_2).isSome = true) <|
  if ((decide ((out_10.getD t20_7.toNat (0 : Int)) > (0 : Int))) && (!r_13)) = true then
    ck (0 ≤ t20_7 ∧ t20_7 < 6) <|
    ck (0 ≤ t20_7 ∧ t20_7 < 6) <|
    some (.inl (out_10.set t20_7.toNat (arR .sub .i64 (out_10.getD t20_7.toNat (0 : Int)) (1 : Int))))
  else
    some (.inr out_10)
noncomputable def cut_Shrink_L1 (c_2 : List Int) (r_5 : List (List (List Int))) (out_6 : List Int) (t20_7 : Int) : Option ((List Int × Int) ⊕ (List Int)) :=
  if (decide (t20_7 < (6 : Int))) = true then
    (loopO (fun x : List Int => cut_Shrink_L2 c_2 r_5 t20_7 x) out_6).bind fun q_12 =>
    some (.inl (q_12, arR .add .i64 t20_7 (1 : Int)))
  else
    some (.inr out_6)
noncomputable def cut_Shrink (h_1 : List ((Int × Int × Int × Unit))) (c_2 : List Int) : Option (List Int × Int) :=
  letO (α := List Int) (List.replicate 6 (0 : Int)) fun t4_3 =>
  (cut_Check h_1 c_2).bind fun r_4 =>
  if (r_4 != (0 : Int)) = true then
    some ([(0 : Int), (0 : Int), (0 : Int), (0 : Int), (0 : Int), (0 : Int)], r_4)
  else
    (cut_story h_1).bind fun r_5 =>
    (loopO (fun x : List Int × Int => cut_Shrink_L1 c_2 r_5 x.1 x.2) (c_2, (0 : Int))).bind fun q_9 =>
    some (q_9, (0 : Int))
noncomputable def CutShrinks (t0_1 : List ((Int × Int × Int × Unit))) (t1_2 : List Int) (t2_3 : List Int) : Option (Bool) :=
  (sent).bind fun r_4 =>
  (cut_Shrink r_4 [(0 : Int), (1 : Int), (0 : Int), (0 : Int), (0 : Int), (0 : Int)]).bind fun r_5 =>
  if ((r_5.2 != (0 : Int)) || (!(eqA6I r_5.1 [(0 : Int), (0 : Int), (0 : Int), (0 : Int), (0 : Int), (0 : Int)]))) = true then
    some false
  else
    (sent).bind fun r_6 =>
    (cut_Shrink r_6 [(1 : Int), (1 : Int), (0 : Int), (0 : Int), (0 : Int), (0 : Int)]).bind fun r_7 =>
    if ((r_7.2 != (0 : Int)) || (!(eqA6I r_7.1 [(1 : Int), (1 : Int), (0 : Int), (0 : Int), (0 : Int), (0 : Int)]))) = true then
      some false
    else
      (stamp_Check t0_1).bind fun r_8 =>
      if (r_8 != (0 : Int)) = true then
        some true
      else
        (someCut t0_1 t1_2).bind fun r_9 =>
        (someCut t0_1 t2_3).bind fun r_10 =>
        (cut_Shrink t0_1 r_9).bind fun r_11 =>
        (cut_Right t0_1 r_11.1).bind fun r_12 =>
        (cut_Shrink t0_1 r_11.1).bind fun r_13 =>
        (cut_Right t0_1 r_10).bind fun r_14 =>
        letO ((vect_Within r_11.1 r_9).getD false) fun r_15 =>
        ck (((((((r_11.2 == (0 : Int)) && (r_12.2 == (0 : Int))) && (r_13.2 == (0 : Int))) && (r_14.2 == (0 : Int))) && r_12.1) && (eqA6I r_13.1 r_11.1)) = true → (vect_Within r_11.1 r_9).isSome = true) <|
        letO ((vect_Within r_10 r_9).getD false) fun r_16 =>
        ck ((!(!r_14.1)) = true → (((((((r_11.2 == (0 : Int)) && (r_12.2 == (0 : Int))) && (r_13.2 == (0 : Int))) && (r_14.2 == (0 : Int))) && r_12.1) && (eqA6I r_13.1 r_11.1)) && r_15) = true → (vect_Within r_10 r_9).isSome = true) <|
        letO ((vect_Within r_10 r_11.1).getD false) fun r_17 =>
        ck ((!((!r_14.1) || (!r_16))) = true → (((((((r_11.2 == (0 : Int)) && (r_12.2 == (0 : Int))) && (r_13.2 == (0 : Int))) && (r_14.2 == (0 : Int))) && r_12.1) && (eqA6I r_13.1 r_11.1)) && r_15) = true → (vect_Within r_10 r_11.1).isSome = true) <|
        some ((((((((r_11.2 == (0 : Int)) && (r_12.2 == (0 : Int))) && (r_13.2 == (0 : Int))) && (r_14.2 == (0 : Int))) && r_12.1) && (eqA6I r_13.1 r_11.1)) && r_15) && (((!r_14.1) || (!r_16)) || r_17))
noncomputable def cut_All_L1 (r_3 : List Int) (many_4 : Int) (t20_5 : Int) : Option ((Int × Int) ⊕ ((Unit) ⊕ (List (List Int) × Int))) :=
  if (decide (t20_5 < (6 : Int))) = true then
    ck (0 ≤ t20_5 ∧ t20_5 < 6) <|
    letO (α := Int) (r_3.getD t20_5.toNat (0 : Int)) fun k_7 =>
    letO (α := Int) (arR .mul .i64 many_4 (arR .add .i64 k_7 (1 : Int))) fun many_8 =>
    if (decide (many_8 > (4096 : Int))) = true then
      some (.inr (.inr (([] : List (List Int)), (2 : Int))))
    else
      some (.inl (many_8, arR .add .i64 t20_5 (1 : Int)))
  else
    some (.inr (.inl ()))
noncomputable def cut_All_L4 (r_3 : List Int) (c_13 : List Int) (p_14 : Int) : Option ((List Int × Int) ⊕ (List Int × Int)) :=
  ck ((decide (p_14 ≥ (0 : Int))) = true → 0 ≤ p_14 ∧ p_14 < 6) <|
  ck ((decide (p_14 ≥ (0 : Int))) = true → 0 ≤ p_14 ∧ p_14 < 6) <|
  if ((decide (p_14 ≥ (0 : Int))) && ((c_13.getD p_14.toNat (0 : Int)) == (r_3.getD p_14.toNat (0 : Int)))) = true then
    ck (0 ≤ p_14 ∧ p_14 < 6) <|
    letO (α := List Int) (c_13.set p_14.toNat (0 : Int)) fun c_18 =>
    some (.inl (c_18, arR .sub .i64 p_14 (1 : Int)))
  else
    some (.inr (c_13, p_14))
noncomputable def cut_All_J3 (r_3 : List Int) (c_10 : List Int) (out_12 : List (List Int)) : Option ((List (List Int) × List Int) ⊕ (List (List Int) × Int)) :=
  (loopO (fun x : List Int × Int => cut_All_L4 r_3 x.1 x.2) (c_10, (5 : Int))).bind fun q_17 =>
  if (decide (q_17.2 < (0 : Int))) = true then
    some (.inr (out_12, (0 : Int)))
  else
    ck (0 ≤ q_17.2 ∧ q_17.2 < 6) <|
    ck (0 ≤ q_17.2 ∧ q_17.2 < 6) <|
    letO (α := List Int) (q_17.1.set q_17.2.toNat (arR .add .i64 (q_17.1.getD q_17.2.toNat (0 : Int)) (1 : Int))) fun c_19 =>
    some (.inl (out_12, c_19))
noncomputable def cut_All_L2 (h_1 : List ((Int × Int × Int × Unit))) (r_3 : List Int) (out_9 : List (List Int)) (c_10 : List Int) : Option ((List (List Int) × List Int) ⊕ (List (List Int) × Int)) :=
  (cut_grow h_1 c_10).bind fun r_11 =>
  if (eqA6I r_11 c_10) = true then
    ck ((out_9.length : Int) + ([c_10].length : Int) ≤ maxL) <|
    cut_All_J3 r_3 c_10 (out_9 ++ [c_10])
  else
    cut_All_J3 r_3 c_10 out_9
noncomputable def cut_All (h_1 : List ((Int × Int × Int × Unit))) : Option (List (List Int) × Int) :=
  (stamp_Check h_1).bind fun r_2 =>
  if (r_2 != (0 : Int)) = true then
    some (([] : List (List Int)), r_2)
  else
    (cut_sizes h_1).bind fun r_3 =>
    bindE (loopO (fun x : Int × Int => cut_All_L1 r_3 x.1 x.2) ((1 : Int), (0 : Int))) fun q_6 =>
    loopO (fun x : List (List Int) × List Int => cut_All_L2 h_1 r_3 x.1 x.2) (([] : List (List Int)), [(0 : Int), (0 : Int), (0 : Int), (0 : Int), (0 : Int), (0 : Int)])
noncomputable def CutMany_1 (x_1 : (Int × Int × Int × Unit)) : Option (Bool) :=
  some (x_1.2.1 == (3 : Int))
noncomputable def slices_IndexFunc_LEvent_Event_1_23_L1 (s_1 : List ((Int × Int × Int × Unit))) (t7_3 : Int) (t8_4 : Int) : Option ((Int) ⊕ ((Unit) ⊕ (Int))) :=
  if (decide (t8_4 < t7_3)) = true then
    ck (0 ≤ t8_4 ∧ t8_4 < (s_1.length : Int)) <|
    (CutMany_1 (s_1.getD t8_4.toNat ((0 : Int), (0 : Int), (0 : Int), ()))).bind fun r_6 =>
    if (r_6) = true then
      some (.inr (.inr t8_4))
    else
      some (.inl (arR .add .i64 t8_4 (1 : Int)))
  else
    some (.inr (.inl ()))
noncomputable def slices_IndexFunc_LEvent_Event_1_23 (s_1 : List ((Int × Int × Int × Unit))) (f_2 : Unit) : Option (Int) :=
  letO (α := Int) ((s_1.length : Int)) fun t7_3 =>
  bindE (loopO (fun x : Int => slices_IndexFunc_LEvent_Event_1_23_L1 s_1 t7_3 x) (0 : Int)) fun q_5 =>
  some (-1 : Int)
noncomputable def slices_ContainsFunc_LEvent_Event_1_23 (s_1 : List ((Int × Int × Int × Unit))) (f_2 : Unit) : Option (Bool) :=
  (slices_IndexFunc_LEvent_Event_1_23 s_1 ()).bind fun r_3 =>
  some (decide (r_3 ≥ (0 : Int)))
noncomputable def R_Room_L1 (r_2 : List Int) (out_3 : Int) (t8_4 : Int) : Option ((Int × Int) ⊕ (Int)) :=
  if (decide (t8_4 < (6 : Int))) = true then
    ck (0 ≤ t8_4 ∧ t8_4 < 6) <|
    letO (α := Int) (r_2.getD t8_4.toNat (0 : Int)) fun n_7 =>
    letO (α := Int) (arR .mul .i64 out_3 (arR .add .i64 n_7 (1 : Int))) fun out_8 =>
    some (.inl (out_8, arR .add .i64 t8_4 (1 : Int)))
  else
    some (.inr out_3)
noncomputable def R_Room (h_1 : List ((Int × Int × Int × Unit))) : Option (Int) :=
  (R_Sizes h_1).bind fun r_2 =>
  (loopO (fun x : Int × Int => R_Room_L1 r_2 x.1 x.2) ((1 : Int), (0 : Int))).bind fun q_6 =>
  some q_6
noncomputable def CutMany (h_1 : List ((Int × Int × Int × Unit))) : Option (Bool) :=
  (cut_All [((0 : Int), (1 : Int), (0 : Int), ()), ((1 : Int), (1 : Int), (0 : Int), ())]).bind fun r_2 =>
  if ((r_2.2 != (0 : Int)) || ((r_2.1.length : Int) != (4 : Int))) = true then
    some false
  else
    (cut_All h_1).bind fun r_3 =>
    if (r_3.2 != (0 : Int)) = true then
      some ((r_3.1.length : Int) == (0 : Int))
    else
      (slices_ContainsFunc_LEvent_Event_1_23 h_1 ()).bind fun r_4 =>
      letO (α := Bool) (!r_4) fun free_5 =>
      letO ((R_Room h_1).getD (0 : Int)) fun r_6 =>
      ck ((decide ((r_3.1.length : Int) ≥ (arR .add .i64 (h_1.length : Int) (1 : Int)))) = true → (R_Room h_1).isSome = true) <|
      letO ((R_Room h_1).getD (0 : Int)) fun r_7 =>
      ck ((!(!free_5)) = true → ((decide ((r_3.1.length : Int) ≥ (arR .add .i64 (h_1.length : Int) (1 : Int)))) && (decide ((r_3.1.length : Int) ≤ r_6))) = true → (R_Room h_1).isSome = true) <|
      some (((decide ((r_3.1.length : Int) ≥ (arR .add .i64 (h_1.length : Int) (1 : Int)))) && (decide ((r_3.1.length : Int) ≤ r_6))) && ((!free_5) || ((r_3.1.length : Int) == r_7)))
noncomputable def slices_Equal_LVector_Vector_L1 (s1_1 : List (List Int)) (s2_2 : List (List Int)) (t12_3 : Int) (t13_4 : Int) : Option ((Int) ⊕ ((Unit) ⊕ (Bool))) :=
  if (decide (t13_4 < t12_3)) = true then
    ck (0 ≤ t13_4 ∧ t13_4 < (s1_1.length : Int)) <|
    ck (0 ≤ t13_4 ∧ t13_4 < (s2_2.length : Int)) <|
    if (!(eqA6I (s1_1.getD t13_4.toNat (List.replicate 6 (0 : Int))) (s2_2.getD t13_4.toNat (List.replicate 6 (0 : Int))))) = true then
      some (.inr (.inr false))
    else
      some (.inl (arR .add .i64 t13_4 (1 : Int)))
  else
    some (.inr (.inl ()))
noncomputable def slices_Equal_LVector_Vector (s1_1 : List (List Int)) (s2_2 : List (List Int)) : Option (Bool) :=
  if ((s1_1.length : Int) != (s2_2.length : Int)) = true then
    some false
  else
    letO (α := Int) ((s1_1.length : Int)) fun t12_3 =>
    bindE (loopO (fun x : Int => slices_Equal_LVector_Vector_L1 s1_1 s2_2 t12_3 x) (0 : Int)) fun q_5 =>
    some true
noncomputable def slices_Index_LVector_Vector_L1 (s_1 : List (List Int)) (v_2 : List Int) (t7_3 : Int) (t8_4 : Int) : Option ((Int) ⊕ ((Unit) ⊕ (Int))) :=
  if (decide (t8_4 < t7_3)) = true then
    ck (0 ≤ t8_4 ∧ t8_4 < (s_1.length : Int)) <|
    if (eqA6I v_2 (s_1.getD t8_4.toNat (List.replicate 6 (0 : Int)))) = true then
      some (.inr (.inr t8_4))
    else
      some (.inl (arR .add .i64 t8_4 (1 : Int)))
  else
    some (.inr (.inl ()))
noncomputable def slices_Index_LVector_Vector (s_1 : List (List Int)) (v_2 : List Int) : Option (Int) :=
  letO (α := Int) ((s_1.length : Int)) fun t7_3 =>
  bindE (loopO (fun x : Int => slices_Index_LVector_Vector_L1 s_1 v_2 t7_3 x) (0 : Int)) fun q_5 =>
  some (-1 : Int)
noncomputable def slices_Contains_LVector_Vector (s_1 : List (List Int)) (v_2 : List Int) : Option (Bool) :=
  (slices_Index_LVector_Vector s_1 v_2).bind fun r_3 =>
  some (decide (r_3 ≥ (0 : Int)))
noncomputable def CutSteps_J1 (t0_1 : List ((Int × Int × Int × Unit))) (r_6 : List (List Int) × Int)  : Option (Bool) :=
  ck ((decide ((r_6.1.length : Int) > (0 : Int))) = true → 0 ≤ (0 : Int) ∧ (0 : Int) < (r_6.1.length : Int)) <|
  ck (((decide ((r_6.1.length : Int) > (0 : Int))) && (eqA6I (r_6.1.getD 0 (List.replicate 6 (0 : Int))) [(0 : Int), (0 : Int), (0 : Int), (0 : Int), (0 : Int), (0 : Int)])) = true → 0 ≤ (arR .sub .i64 (r_6.1.length : Int) (1 : Int)) ∧ (arR .sub .i64 (r_6.1.length : Int) (1 : Int)) < (r_6.1.length : Int)) <|
  letO ((R_Sizes t0_1).getD (List.replicate 6 (0 : Int))) fun r_11 =>
  ck (((decide ((r_6.1.length : Int) > (0 : Int))) && (eqA6I (r_6.1.getD 0 (List.replicate 6 (0 : Int))) [(0 : Int), (0 : Int), (0 : Int), (0 : Int), (0 : Int), (0 : Int)])) = true → (R_Sizes t0_1).isSome = true) <|
  some (((decide ((r_6.1.length : Int) > (0 : Int))) && (eqA6I (r_6.1.getD 0 (List.replicate 6 (0 : Int))) [(0 : Int), (0 : Int), (0 : Int), (0 : Int), (0 : Int), (0 : Int)])) && (eqA6I (r_6.1.getD (arR .sub .i64 (r_6.1.length : Int) (1 : Int)).toNat (List.replicate 6 (0 : Int))) r_11))
noncomputable def CutSteps_L2 (r_6 : List (List Int) × Int) (r_7 : List Int) (t11_12 : Bool) (t65_13 : Int) : Option ((Bool × Int) ⊕ (Bool)) :=
  if (decide (t65_13 < (6 : Int))) = true then
    ck (0 ≤ t65_13 ∧ t65_13 < 6) <|
    ck (0 ≤ t65_13 ∧ t65_13 < 6) <|
    letO (α := List Int) (r_7.set t65_13.toNat (arR .add .i64 (r_7.getD t65_13.toNat (0 : Int)) (1 : Int))) fun t13_16 =>
    letO ((slices_Contains_LVector_Vector r_6.1 t13_16).getD false) fun r_17 =>
    ck ((!t11_12) = true → (slices_Contains_LVector_Vector r_6.1 t13_16).isSome = true) <|
    letO (α := Bool) (t11_12 || r_17) fun t11_18 =>
    some (.inl (t11_18, arR .add .i64 t65_13 (1 : Int)))
  else
    some (.inr t11_12)
noncomputable def CutSteps (t0_1 : List ((Int × Int × Int × Unit))) (t1_2 : List Int) : Option (Bool) :=
  (sent).bind fun r_3 =>
  (cut_All r_3).bind fun r_4 =>
  letO ((slices_Equal_LVector_Vector r_4.1 [[(0 : Int), (0 : Int), (0 : Int), (0 : Int), (0 : Int), (0 : Int)], [(1 : Int), (0 : Int), (0 : Int), (0 : Int), (0 : Int), (0 : Int)], [(1 : Int), (1 : Int), (0 : Int), (0 : Int), (0 : Int), (0 : Int)]]).getD false) fun r_5 =>
  ck ((!(r_4.2 != (0 : Int))) = true → (slices_Equal_LVector_Vector r_4.1 [[(0 : Int), (0 : Int), (0 : Int), (0 : Int), (0 : Int), (0 : Int)], [(1 : Int), (0 : Int), (0 : Int), (0 : Int), (0 : Int), (0 : Int)], [(1 : Int), (1 : Int), (0 : Int), (0 : Int), (0 : Int), (0 : Int)]]).isSome = true) <|
  if ((r_4.2 != (0 : Int)) || (!r_5)) = true then
    some false
  else
    (cut_All t0_1).bind fun r_6 =>
    if (r_6.2 != (0 : Int)) = true then
      some ((r_6.1.length : Int) == (0 : Int))
    else
      (someCut t0_1 t1_2).bind fun r_7 =>
      (cut_Right t0_1 r_7).bind fun r_8 =>
      letO ((slices_Contains_LVector_Vector r_6.1 r_7).getD false) fun r_9 =>
      ck ((!(r_8.2 != (0 : Int))) = true → (slices_Contains_LVector_Vector r_6.1 r_7).isSome = true) <|
      if ((r_8.2 != (0 : Int)) || (!(eqB r_8.1 r_9))) = true then
        some false
      else
        letO ((R_Sizes t0_1).getD (List.replicate 6 (0 : Int))) fun r_10 =>
        ck (r_8.1 = true → (R_Sizes t0_1).isSome = true) <|
        if (r_8.1 && (!(eqA6I r_7 r_10))) = true then
          (loopO (fun x : Bool × Int => CutSteps_L2 r_6 r_7 x.1 x.2) (false, (0 : Int))).bind fun q_15 =>
          if (!q_15) = true then
            some false
          else
            CutSteps_J1 t0_1 r_6
        else
          CutSteps_J1 t0_1 r_6
noncomputable def anyTruth_L2 (of_2 : List Int) (t12_5 : Int) (t17_9 : Int) (l_10 : List Bool) (t18_11 : Int) : Option ((List Bool × Int) ⊕ (List Bool)) :=
  if (decide (t18_11 < t17_9)) = true then
    ck (0 ≤ t12_5 ∧ t12_5 < 6) <|
    ck (0 ≤ t18_11) <|
    ck ((l_10.length : Int) + (([(arR .and .u64 (arR .shr .u64 (of_2.getD t12_5.toNat (0 : Int)) t18_11) (1 : Int)) == (1 : Int)]).length : Int) ≤ maxL) <|
    letO (α := List Bool) (l_10 ++ ([(arR .and .u64 (arR .shr .u64 (of_2.getD t12_5.toNat (0 : Int)) t18_11) (1 : Int)) == (1 : Int)])) fun l_14 =>
    some (.inl (l_14, arR .add .i64 t18_11 (1 : Int)))
  else
    some (.inr l_10)
noncomputable def anyTruth_L1 (of_2 : List Int) (r_3 : List Int) (out_4 : List (List Bool)) (t12_5 : Int) : Option ((List (List Bool) × Int) ⊕ (List (List Bool))) :=
  if (decide (t12_5 < (6 : Int))) = true then
    ck (0 ≤ t12_5 ∧ t12_5 < 6) <|
    letO (α := Int) (r_3.getD t12_5.toNat (0 : Int)) fun n_8 =>
    letO (α := Int) (arR .add .i64 n_8 (1 : Int)) fun t17_9 =>
    (loopO (fun x : List Bool × Int => anyTruth_L2 of_2 t12_5 t17_9 x.1 x.2) (([] : List Bool), (0 : Int))).bind fun q_13 =>
    ck ((out_4.length : Int) + ([q_13].length : Int) ≤ maxL) <|
    letO (α := List (List Bool)) (out_4 ++ [q_13]) fun out_15 =>
    some (.inl (out_15, arR .add .i64 t12_5 (1 : Int)))
  else
    some (.inr out_4)
noncomputable def anyTruth (h_1 : List ((Int × Int × Int × Unit))) (of_2 : List Int) : Option (List (List Bool)) :=
  (R_Sizes h_1).bind fun r_3 =>
  (loopO (fun x : List (List Bool) × Int => anyTruth_L1 of_2 r_3 x.1 x.2) (([] : List (List Bool)), (0 : Int))).bind fun q_7 =>
  some q_7
noncomputable def late (h_1 : List ((Int × Int × Int × Unit))) : Option (List (List Bool)) :=
  (anyTruth h_1 [(2 : Int), (3 : Int), (3 : Int), (3 : Int), (3 : Int), (3 : Int)]).bind fun r_2 =>
  some r_2
noncomputable def pred_sizes_L1 (h_1 : List ((Int × Int × Int × Unit))) (t7_4 : Int) (n_5 : List Int) (t8_6 : Int) : Option ((List Int × Int) ⊕ (List Int)) :=
  if (decide (t8_6 < t7_4)) = true then
    ck (0 ≤ t8_6 ∧ t8_6 < (h_1.length : Int)) <|
    letO (α := (Int × Int × Int × Unit)) (h_1.getD t8_6.toNat ((0 : Int), (0 : Int), (0 : Int), ())) fun x_9 =>
    ck (0 ≤ x_9.1 ∧ x_9.1 < 6) <|
    ck (0 ≤ x_9.1 ∧ x_9.1 < 6) <|
    letO (α := List Int) (n_5.set x_9.1.toNat (arR .add .i64 (n_5.getD x_9.1.toNat (0 : Int)) (1 : Int))) fun n_10 =>
    some (.inl (n_10, arR .add .i64 t8_6 (1 : Int)))
  else
    some (.inr n_5)
noncomputable def pred_sizes (h_1 : List ((Int × Int × Int × Unit))) : Option (List Int) :=
  letO (α := List Int) (List.replicate 6 (0 : Int)) fun t2_2 =>
  letO (α := List Int) (List.replicate 6 (0 : Int)) fun n_3 =>
  letO (α := Int) ((h_1.length : Int)) fun t7_4 =>
  (loopO (fun x : List Int × Int => pred_sizes_L1 h_1 t7_4 x.1 x.2) (n_3, (0 : Int))).bind fun q_8 =>
  some q_8
noncomputable def pred_Check_L1 (truth_2 : List (List Bool)) (r_4 : List Int) (t21_5 : Int) (t22_6 : Int) : Option ((Int) ⊕ ((Unit) ⊕ (Int))) :=
  if (decide (t22_6 < t21_5)) = true then
    ck (0 ≤ t22_6 ∧ t22_6 < (truth_2.length : Int)) <|
    letO (α := List Bool) (truth_2.getD t22_6.toNat ([] : List Bool)) fun l_8 =>
    ck (0 ≤ t22_6 ∧ t22_6 < 6) <|
    if ((l_8.length : Int) != (arR .add .i64 (r_4.getD t22_6.toNat (0 : Int)) (1 : Int))) = true then
      some (.inr (.inr (4 : Int)))
    else
      some (.inl (arR .add .i64 t22_6 (1 : Int)))
  else
    some (.inr (.inl ()))
noncomputable def pred_Check (h_1 : List ((Int × Int × Int × Unit))) (truth_2 : List (List Bool)) : Option (Int) :=
  (cut_Check h_1 [(0 : Int), (0 : Int), (0 : Int), (0 : Int), (0 : Int), (0 : Int)]).bind fun r_3 =>
  if (r_3 != (0 : Int)) = true then
    some r_3
  else
    if ((truth_2.length : Int) != (6 : Int)) = true then
      some (4 : Int)
    else
      (pred_sizes h_1).bind fun r_4 =>
      letO (α := Int) ((truth_2.length : Int)) fun t21_5 =>
      bindE (loopO (fun x : Int => pred_Check_L1 truth_2 r_4 t21_5 x) (0 : Int)) fun q_7 =>
      some (0 : Int)
noncomputable def pred_holds_L1 (truth_1 : List (List Bool)) (c_2 : List Int) (t8_3 : Int) (t9_4 : Int) : Option ((Int) ⊕ ((Unit) ⊕ (Bool))) :=
  if (decide (t9_4 < t8_3)) = true then
    ck (0 ≤ t9_4 ∧ t9_4 < (truth_1.length : Int)) <|
    letO (α := List Bool) (truth_1.getD t9_4.toNat ([] : List Bool)) fun l_6 =>
    ck (0 ≤ t9_4 ∧ t9_4 < 6) <|
    ck (0 ≤ (c_2.getD t9_4.toNat (0 : Int)) ∧ (c_2.getD t9_4.toNat (0 : Int)) < (l_6.length : Int)) <|
    if (!(l_6.getD (c_2.getD t9_4.toNat (0 : Int)).toNat false)) = true then
      some (.inr (.inr false))
    else
      some (.inl (arR .add .i64 t9_4 (1 : Int)))
  else
    some (.inr (.inl ()))
noncomputable def pred_holds (truth_1 : List (List Bool)) (c_2 : List Int) : Option (Bool) :=
  letO (α := Int) ((truth_1.length : Int)) fun t8_3 =>
  bindE (loopO (fun x : Int => pred_holds_L1 truth_1 c_2 t8_3 x) (0 : Int)) fun q_5 =>
  some true
noncomputable def pred_First_L3 (t21_9 : Int) (t10_12 : List Bool) (t8_13 : List Int) : Option ((List Int) ⊕ (List Int)) :=
  ck (0 ≤ t21_9 ∧ t21_9 < 6) <|
  ck ((decide ((t8_13.getD t21_9.toNat (0 : Int)) < (t10_12.length : Int))) = true → 0 ≤ t21_9 ∧ t21_9 < 6) <|
  ck ((decide ((t8_13.getD t21_9.toNat (0 : Int)) < (t10_12.length : Int))) = true → 0 ≤ (t8_13.getD t21_9.toNat (0 : Int)) ∧ (t8_13.getD t21_9.toNat (0 : Int)) < (t10_12.length : Int)) <|
  if ((decide ((t8_13.getD t21_9.toNat (0 : Int)) < (t10_12.length : Int))) && (!(t10_12.getD (t8_13.getD t21_9.toNat (0 : Int)).toNat false))) = true then
    ck (0 ≤ t21_9 ∧ t21_9 < 6) <|
    ck (0 ≤ t21_9 ∧ t21_9 < 6) <|
    some (.inl (t8_13.set t21_9.toNat (arR .add .i64 (t8_13.getD t21_9.toNat (0 : Int)) (1 : Int))))
  else
    some (.inr t8_13)
noncomputable def pred_First_L2 (t1_2 : List (List Bool)) (t20_7 : Int) (t8_8 : List Int) (t21_9 : Int) : Option ((List Int × Int) ⊕ ((List Int) ⊕ ((List Int) ⊕ (List Int × Int)))) :=
  if (decide (t21_9 < t20_7)) = true then
    ck (0 ≤ t21_9 ∧ t21_9 < (t1_2.length : Int)) <|
    letO (α := List Bool) (t1_2.getD t21_9.toNat ([] : List Bool)) fun t10_12 =>
    (loopO (fun x : List Int => pred_First_L3 t21_9 t10_12 x) t8_8).bind fun q_15 =>
    ck (0 ≤ t21_9 ∧ t21_9 < 6) <|
    if ((q_15.getD t21_9.toNat (0 : Int)) == (t10_12.length : Int)) = true then
      some (.inr (.inr (.inr ([(0 : Int), (0 : Int), (0 : Int), (0 : Int), (0 : Int), (0 : Int)], (6 : Int)))))
    else
      some (.inl (q_15, arR .add .i64 t21_9 (1 : Int)))
  else
    some (.inr (.inl t8_8))
noncomputable def pred_First_J4 (r_16 : List Int × Int)  : Option ((List Int) ⊕ (List Int × Int)) :=
  some (.inl r_16.1)
noncomputable def pred_First_L1 (t0_1 : List ((Int × Int × Int × Unit))) (t1_2 : List (List Bool)) (t7_6 : List Int) : Option ((List Int) ⊕ (List Int × Int)) :=
  letO (α := Int) ((t1_2.length : Int)) fun t20_7 =>
  bindE (loopO (fun x : List Int × Int => pred_First_L2 t1_2 t20_7 x.1 x.2) (t7_6, (0 : Int))) fun q_11 =>
  (cut_Grow t0_1 q_11).bind fun r_16 =>
  if (eqA6I r_16.1 t7_6) = true then
    (pred_holds t1_2 t7_6).bind fun r_17 =>
    if (r_17) = true then
      some (.inr (t7_6, (0 : Int)))
    else
      pred_First_J4 r_16
  else
    pred_First_J4 r_16
noncomputable def pred_First (t0_1 : List ((Int × Int × Int × Unit))) (t1_2 : List (List Bool)) : Option (List Int × Int) :=
  letO (α := List Int) (List.replicate 6 (0 : Int)) fun t4_3 =>
  (pred_Check t0_1 t1_2).bind fun r_4 =>
  if (r_4 != (0 : Int)) = true then
    some ([(0 : Int), (0 : Int), (0 : Int), (0 : Int), (0 : Int), (0 : Int)], r_4)
  else
    letO (α := List Int) (List.replicate 6 (0 : Int)) fun t7_5 =>
    loopO (fun x : List Int => pred_First_L1 t0_1 t1_2 x) t7_5
noncomputable def R_So_L1 (truth_1 : List (List Bool)) (c_2 : List Int) (t8_3 : Int) : Option ((Int) ⊕ ((Unit) ⊕ (Bool))) :=
  if (decide (t8_3 < (6 : Int))) = true then
    ck (0 ≤ t8_3 ∧ t8_3 < 6) <|
    letO (α := Int) (c_2.getD t8_3.toNat (0 : Int)) fun k_5 =>
    ck (0 ≤ t8_3 ∧ t8_3 < (truth_1.length : Int)) <|
    ck (0 ≤ k_5 ∧ k_5 < ((truth_1.getD t8_3.toNat ([] : List Bool)).length : Int)) <|
    if (!((truth_1.getD t8_3.toNat ([] : List Bool)).getD k_5.toNat false)) = true then
      some (.inr (.inr false))
    else
      some (.inl (arR .add .i64 t8_3 (1 : Int)))
  else
    some (.inr (.inl ()))
noncomputable def R_So (truth_1 : List (List Bool)) (c_2 : List Int) : Option (Bool) :=
  bindE (loopO (fun x : Int => R_So_L1 truth_1 c_2 x) (0 : Int)) fun q_4 =>
  some true
noncomputable def PredFirst (t0_1 : List ((Int × Int × Int × Unit))) (t1_2 : List Int) (t2_3 : List Int) : Option (Bool) :=
  (sent).bind fun r_4 =>
  (sent).bind fun r_5 =>
  (late r_5).bind fun r_6 =>
  (pred_First r_4 r_6).bind fun r_7 =>
  if ((r_7.2 != (0 : Int)) || (!(eqA6I r_7.1 [(1 : Int), (0 : Int), (0 : Int), (0 : Int), (0 : Int), (0 : Int)]))) = true then
    some false
  else
    (stamp_Check t0_1).bind fun r_8 =>
    if (r_8 != (0 : Int)) = true then
      some true
    else
      (anyTruth t0_1 t1_2).bind fun r_9 =>
      (pred_First t0_1 r_9).bind fun r_10 =>
      (someCut t0_1 t2_3).bind fun r_11 =>
      (cut_Right t0_1 r_11).bind fun r_12 =>
      letO ((R_So r_9 r_11).getD false) fun r_13 =>
      ck (r_12.1 = true → (R_So r_9 r_11).isSome = true) <|
      letO (α := Bool) (r_12.1 && r_13) fun t14_14 =>
      if (r_10.2 == (6 : Int)) = true then
        some (((r_12.2 == (0 : Int)) && (!t14_14)) && (eqA6I r_10.1 [(0 : Int), (0 : Int), (0 : Int), (0 : Int), (0 : Int), (0 : Int)]))
      else
        (cut_Right t0_1 r_10.1).bind fun r_15 =>
        letO ((R_So r_9 r_10.1).getD false) fun r_16 =>
        ck (((((r_10.2 == (0 : Int)) && (r_12.2 == (0 : Int))) && (r_15.2 == (0 : Int))) && r_15.1) = true → (R_So r_9 r_10.1).isSome = true) <|
        letO ((vect_Within r_10.1 r_11).getD false) fun r_17 =>
        ck ((!(!t14_14)) = true → (((((r_10.2 == (0 : Int)) && (r_12.2 == (0 : Int))) && (r_15.2 == (0 : Int))) && r_15.1) && r_16) = true → (vect_Within r_10.1 r_11).isSome = true) <|
        some ((((((r_10.2 == (0 : Int)) && (r_12.2 == (0 : Int))) && (r_15.2 == (0 : Int))) && r_15.1) && r_16) && ((!t14_14) || r_17))
noncomputable def pred_Must_J3 (t45_15 : Int) (t13_18 : Bool) : Option ((Bool × Int) ⊕ (Bool)) :=
  some (.inl (t13_18, arR .add .i64 t45_15 (1 : Int)))
noncomputable def pred_Must_L2 (t10_7 : List (List Int × Int)) (t12_11 : List Int) (t13_14 : Bool) (t45_15 : Int) : Option ((Bool × Int) ⊕ (Bool)) :=
  if (decide (t45_15 < (6 : Int))) = true then
    ck (0 ≤ t45_15 ∧ t45_15 < 6) <|
    if (decide ((t12_11.getD t45_15.toNat (0 : Int)) > (0 : Int))) = true then
      ck (0 ≤ t45_15 ∧ t45_15 < 6) <|
      ck (0 ≤ t45_15 ∧ t45_15 < 6) <|
      letO (α := List Int) (t12_11.set t45_15.toNat (arR .sub .i64 (t12_11.getD t45_15.toNat (0 : Int)) (1 : Int))) fun t15_19 =>
      pred_Must_J3 t45_15 (t13_14 || (decide ((mgetA6II t10_7 t15_19) > (0 : Int))))
    else
      pred_Must_J3 t45_15 t13_14
  else
    some (.inr t13_14)
noncomputable def pred_Must_L1 (t1_2 : List (List Bool)) (r_4 : List (List Int) × Int) (t34_6 : Int) (t10_7 : List (List Int × Int)) (t35_8 : Int) : Option ((List (List Int × Int) × Int) ⊕ (List (List Int × Int))) :=
  if (decide (t35_8 < t34_6)) = true then
    ck (0 ≤ t35_8 ∧ t35_8 < (r_4.1.length : Int)) <|
    letO (α := List Int) (r_4.1.getD t35_8.toNat (List.replicate 6 (0 : Int))) fun t12_11 =>
    (pred_holds t1_2 t12_11).bind fun r_12 =>
    if (r_12) = true then
      some (.inl (t10_7, arR .add .i64 t35_8 (1 : Int)))
    else
      letO (α := Bool) (eqA6I t12_11 [(0 : Int), (0 : Int), (0 : Int), (0 : Int), (0 : Int), (0 : Int)]) fun t13_13 =>
      (loopO (fun x : Bool × Int => pred_Must_L2 t10_7 t12_11 x.1 x.2) (t13_13, (0 : Int))).bind fun q_17 =>
      mergeO (q_17) (msetA6II t10_7 t12_11 (1 : Int)) t10_7 fun y_21 =>
      some (.inl (y_21, arR .add .i64 t35_8 (1 : Int)))
  else
    some (.inr t10_7)
noncomputable def pred_Must (t0_1 : List ((Int × Int × Int × Unit))) (t1_2 : List (List Bool)) : Option (Bool × Int) :=
  (pred_Check t0_1 t1_2).bind fun r_3 =>
  if (r_3 != (0 : Int)) = true then
    some (false, r_3)
  else
    (cut_All t0_1).bind fun r_4 =>
    if (r_4.2 != (0 : Int)) = true then
      some (false, r_4.2)
    else
      (pred_sizes t0_1).bind fun r_5 =>
      letO (α := Int) ((r_4.1.length : Int)) fun t34_6 =>
      (loopO (fun x : List (List Int × Int) × Int => pred_Must_L1 t1_2 r_4 t34_6 x.1 x.2) (([] : List (List Int × Int)), (0 : Int))).bind fun q_10 =>
      some ((mgetA6II q_10 r_5) == (0 : Int), (0 : Int))
noncomputable def PredMust_L3 (t0_1 : List ((Int × Int × Int × Unit))) (t12_14 : List Int) (t15_21 : Int) (t69_22 : Int) : Option ((Int × Int) ⊕ (List Int)) :=
  if (decide (t69_22 < (6 : Int))) = true then
    ck (0 ≤ t15_21 ∧ t15_21 < 6) <|
    ck (0 ≤ t15_21 ∧ t15_21 < 6) <|
    letO (α := List Int) (t12_14.set t15_21.toNat (arR .add .i64 (t12_14.getD t15_21.toNat (0 : Int)) (1 : Int))) fun t16_25 =>
    (cut_Right t0_1 t16_25).bind fun r_26 =>
    if ((r_26.2 == (0 : Int)) && r_26.1) = true then
      some (.inr t16_25)
    else
      ck ((6 : Int) ≠ 0) <|
      letO (α := Int) (arR .rem .i64 (arR .add .i64 t15_21 (1 : Int)) (6 : Int)) fun t15_27 =>
      some (.inl (t15_27, arR .add .i64 t69_22 (1 : Int)))
  else
    some (.inr t12_14)
noncomputable def PredMust_J2 (t0_1 : List ((Int × Int × Int × Unit))) (r_9 : List (List Bool)) (t12_14 : List Int) (t13_15 : Bool) (t57_16 : Int) (t15_20 : Int) : Option ((List Int × Bool × Int) ⊕ (List Int × Bool)) :=
  (loopO (fun x : Int × Int => PredMust_L3 t0_1 t12_14 x.1 x.2) (t15_20, (0 : Int))).bind fun q_24 =>
  letO ((R_So r_9 q_24).getD false) fun r_28 =>
  ck ((!t13_15) = true → (R_So r_9 q_24).isSome = true) <|
  letO (α := Bool) (t13_15 || r_28) fun t13_29 =>
  some (.inl (q_24, t13_29, arR .add .i64 t57_16 (1 : Int)))
noncomputable def PredMust_L1 (t0_1 : List ((Int × Int × Int × Unit))) (t2_3 : List Int) (r_9 : List (List Bool)) (t56_13 : Int) (t12_14 : List Int) (t13_15 : Bool) (t57_16 : Int) : Option ((List Int × Bool × Int) ⊕ (List Int × Bool)) :=
  if (decide (t57_16 < t56_13)) = true then
    if (decide (t57_16 < (t2_3.length : Int))) = true then
      ck (0 ≤ t57_16 ∧ t57_16 < (t2_3.length : Int)) <|
      (R_Rest (t2_3.getD t57_16.toNat (0 : Int)) (6 : Int)).bind fun r_30 =>
      PredMust_J2 t0_1 r_9 t12_14 t13_15 t57_16 r_30
    else
      PredMust_J2 t0_1 r_9 t12_14 t13_15 t57_16 (0 : Int)
  else
    some (.inr (t12_14, t13_15))
noncomputable def PredMust (t0_1 : List ((Int × Int × Int × Unit))) (t1_2 : List Int) (t2_3 : List Int) : Option (Bool) :=
  (sent).bind fun r_4 =>
  (sent).bind fun r_5 =>
  (late r_5).bind fun r_6 =>
  (pred_Must r_4 r_6).bind fun r_7 =>
  if ((r_7.2 != (0 : Int)) || (!r_7.1)) = true then
    some false
  else
    (stamp_Check t0_1).bind fun r_8 =>
    if (r_8 != (0 : Int)) = true then
      some true
    else
      (anyTruth t0_1 t1_2).bind fun r_9 =>
      (pred_Must t0_1 r_9).bind fun r_10 =>
      if (r_10.2 != (0 : Int)) = true then
        some ((r_10.2 == (2 : Int)) && (!r_10.1))
      else
        letO (α := List Int) (List.replicate 6 (0 : Int)) fun t12_11 =>
        (R_So r_9 t12_11).bind fun r_12 =>
        letO (α := Int) ((t0_1.length : Int)) fun t56_13 =>
        (loopO (fun x : List Int × Bool × Int => PredMust_L1 t0_1 t2_3 r_9 t56_13 x.1 x.2.1 x.2.2) (t12_11, r_12, (0 : Int))).bind fun q_19 =>
        (R_Sizes t0_1).bind fun r_31 =>
        some ((eqA6I q_19.1 r_31) && ((!r_10.1) || q_19.2))
noncomputable def PredBoth (t0_1 : List ((Int × Int × Int × Unit))) (t1_2 : List Int) : Option (Bool) :=
  (late ([] : List ((Int × Int × Int × Unit)))).bind fun r_3 =>
  (pred_Must ([] : List ((Int × Int × Int × Unit))) r_3).bind fun r_4 =>
  if ((r_4.2 != (0 : Int)) || r_4.1) = true then
    some false
  else
    (sent).bind fun r_5 =>
    (sent).bind fun r_6 =>
    (late r_6).bind fun r_7 =>
    (pred_Must r_5 r_7).bind fun r_8 =>
    if ((r_8.2 != (0 : Int)) || (!r_8.1)) = true then
      some false
    else
      (stamp_Check t0_1).bind fun r_9 =>
      if (r_9 != (0 : Int)) = true then
        some true
      else
        (anyTruth t0_1 t1_2).bind fun r_10 =>
        (pred_First t0_1 r_10).bind fun r_11 =>
        (pred_Must t0_1 r_10).bind fun r_12 =>
        if (r_12.2 != (0 : Int)) = true then
          some (r_12.2 == (2 : Int))
        else
          (R_So r_10 [(0 : Int), (0 : Int), (0 : Int), (0 : Int), (0 : Int), (0 : Int)]).bind fun r_13 =>
          letO ((R_Sizes t0_1).getD (List.replicate 6 (0 : Int))) fun r_14 =>
          ck ((!r_13) = true → (R_Sizes t0_1).isSome = true) <|
          letO ((R_So r_10 r_14).getD false) fun r_15 =>
          ck ((!r_13) = true → (R_So r_10 r_14).isSome = true) <|
          letO (α := Bool) (r_13 || r_15) fun t14_16 =>
          some (((!r_12.1) || (r_11.2 == (0 : Int))) && ((!t14_16) || r_12.1))
noncomputable def PredMore_L1 (t2_3 : List Int) (t11_11 : List Int) (t52_12 : Int) : Option ((List Int × Int) ⊕ (List Int)) :=
  if (decide (t52_12 < (6 : Int))) = true then
    ck (0 ≤ t52_12 ∧ t52_12 < 6) <|
    ck (0 ≤ t52_12 ∧ t52_12 < 6) <|
    ck (0 ≤ t52_12 ∧ t52_12 < 6) <|
    letO (α := List Int) (t11_11.set t52_12.toNat (arR .or .u64 (t11_11.getD t52_12.toNat (0 : Int)) (t2_3.getD t52_12.toNat (0 : Int)))) fun t11_15 =>
    some (.inl (t11_15, arR .add .i64 t52_12 (1 : Int)))
  else
    some (.inr t11_11)
noncomputable def PredMore (t0_1 : List ((Int × Int × Int × Unit))) (t1_2 : List Int) (t2_3 : List Int) : Option (Bool) :=
  (anyTruth ([] : List ((Int × Int × Int × Unit))) [(1 : Int), (1 : Int), (1 : Int), (1 : Int), (1 : Int), (1 : Int)]).bind fun r_4 =>
  (pred_First ([] : List ((Int × Int × Int × Unit))) r_4).bind fun r_5 =>
  if ((r_5.2 != (0 : Int)) || (!(eqA6I r_5.1 [(0 : Int), (0 : Int), (0 : Int), (0 : Int), (0 : Int), (0 : Int)]))) = true then
    some false
  else
    (sent).bind fun r_6 =>
    (sent).bind fun r_7 =>
    (late r_7).bind fun r_8 =>
    (pred_First r_6 r_8).bind fun r_9 =>
    if ((r_9.2 != (0 : Int)) || (!(eqA6I r_9.1 [(1 : Int), (0 : Int), (0 : Int), (0 : Int), (0 : Int), (0 : Int)]))) = true then
      some false
    else
      (stamp_Check t0_1).bind fun r_10 =>
      if (r_10 != (0 : Int)) = true then
        some true
      else
        (loopO (fun x : List Int × Int => PredMore_L1 t2_3 x.1 x.2) (t1_2, (0 : Int))).bind fun q_14 =>
        (anyTruth t0_1 t1_2).bind fun r_16 =>
        (pred_First t0_1 r_16).bind fun r_17 =>
        (anyTruth t0_1 q_14).bind fun r_18 =>
        (pred_First t0_1 r_18).bind fun r_19 =>
        letO ((vect_Within r_19.1 r_17.1).getD false) fun r_20 =>
        ck ((!(r_19.2 != (0 : Int))) = true → (r_17.2 == (0 : Int)) = true → (vect_Within r_19.1 r_17.1).isSome = true) <|
        if ((r_17.2 == (0 : Int)) && ((r_19.2 != (0 : Int)) || (!r_20))) = true then
          some false
        else
          (anyTruth t0_1 t1_2).bind fun r_21 =>
          (pred_Must t0_1 r_21).bind fun r_22 =>
          (anyTruth t0_1 q_14).bind fun r_23 =>
          (pred_Must t0_1 r_23).bind fun r_24 =>
          some ((r_22.2 == r_24.2) && ((!r_22.1) || r_24.1))
end Go.Proofs.Ytdahfpfkjljojaa.Ct
