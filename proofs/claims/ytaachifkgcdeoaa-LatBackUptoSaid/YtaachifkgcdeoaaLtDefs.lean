/- Functions of the program as functions that may fail, and that the code computes them (printed). Each theorem bears its conditions itself. -/
import Derived.Test.YtaachifkgcdeoaaSyf
open Go Go.Proofs.Ytaachifkgcdeoaa.Sy
set_option maxHeartbeats 4000000
set_option maxRecDepth 100000
set_option cbv.maxSteps 10000000
set_option linter.unusedVariables false
set_option linter.unusedSimpArgs false
namespace Go.Proofs.Ytaachifkgcdeoaa.Lt
def mgetu16I (m : List (Int × Int)) (k : Int) : Int := mgetL (.int .u16) (.int .i64) m k
def msetu16I (m : List (Int × Int)) (k : Int) (v : Int) : List (Int × Int) := msetL (.int .u16) (.int .i64) m k v
noncomputable def lat_Check_L1 (t0_1 : List Int) (t24_2 : Int) (t3_3 : List (Int × Int)) (t25_4 : Int) : Option ((List (Int × Int) × Int) ⊕ ((List (Int × Int)) ⊕ (Int))) :=
  if (decide (t25_4 < t24_2)) = true then
    ck (0 ≤ t25_4 ∧ t25_4 < (t0_1.length : Int)) <|
    letO (α := Int) (t0_1.getD t25_4.toNat (0 : Int)) fun t5_7 =>
    ck (0 ≤ (12 : Int)) <|
    if ((arR .shr .u16 t5_7 (12 : Int)) != (0 : Int)) = true then
      some (.inr (.inr (1 : Int)))
    else
      ck ((decide (t25_4 > (0 : Int))) = true → 0 ≤ (arR .sub .i64 t25_4 (1 : Int)) ∧ (arR .sub .i64 t25_4 (1 : Int)) < (t0_1.length : Int)) <|
      if ((decide (t25_4 > (0 : Int))) && (decide (t5_7 ≤ (t0_1.getD (arR .sub .i64 t25_4 (1 : Int)).toNat (0 : Int))))) = true then
        some (.inr (.inr (4 : Int)))
      else
        letO (α := List (Int × Int)) (msetu16I t3_3 t5_7 (1 : Int)) fun t3_8 =>
        some (.inl (t3_8, arR .add .i64 t25_4 (1 : Int)))
  else
    some (.inr (.inl t3_3))
noncomputable def lat_Check_L3 (t0_1 : List Int) (q_6 : List (Int × Int)) (t7_12 : Int) (t57_13 : Int) (t58_14 : Int) : Option ((Int) ⊕ ((Unit) ⊕ ((Int) ⊕ ((Unit) ⊕ (Int))))) :=
  if (decide (t58_14 < t57_13)) = true then
    ck (0 ≤ t58_14 ∧ t58_14 < (t0_1.length : Int)) <|
    letO (α := Int) (t0_1.getD t58_14.toNat (0 : Int)) fun t9_16 =>
    if (decide ((arR .add .i64 (mgetu16I q_6 (arR .or .u16 t7_12 t9_16)) (mgetu16I q_6 (arR .and .u16 t7_12 t9_16))) < (2 : Int))) = true then
      some (.inr (.inr (.inr (.inr (4 : Int)))))
    else
      some (.inl (arR .add .i64 t58_14 (1 : Int)))
  else
    some (.inr (.inl ()))
noncomputable def lat_Check_L2 (t0_1 : List Int) (q_6 : List (Int × Int)) (t51_9 : Int) (t52_10 : Int) : Option ((Int) ⊕ ((Unit) ⊕ (Int))) :=
  if (decide (t52_10 < t51_9)) = true then
    ck (0 ≤ t52_10 ∧ t52_10 < (t0_1.length : Int)) <|
    letO (α := Int) (t0_1.getD t52_10.toNat (0 : Int)) fun t7_12 =>
    letO (α := Int) ((t0_1.length : Int)) fun t57_13 =>
    bindE (loopO (fun x : Int => lat_Check_L3 t0_1 q_6 t7_12 t57_13 x) (0 : Int)) fun q_15 =>
    some (.inl (arR .add .i64 t52_10 (1 : Int)))
  else
    some (.inr (.inl ()))
noncomputable def lat_Check (t0_1 : List Int) : Option (Int) :=
  if ((decide ((t0_1.length : Int) < (1 : Int))) || (decide ((t0_1.length : Int) > (4096 : Int)))) = true then
    some (2 : Int)
  else
    ck (0 ≤ (0 : Int) ∧ (0 : Int) < (t0_1.length : Int)) <|
    if ((t0_1.getD 0 (0 : Int)) != (0 : Int)) = true then
      some (4 : Int)
    else
      letO (α := Int) ((t0_1.length : Int)) fun t24_2 =>
      bindE (loopO (fun x : List (Int × Int) × Int => lat_Check_L1 t0_1 t24_2 x.1 x.2) (([] : List (Int × Int)), (0 : Int))) fun q_6 =>
      if (decide ((t0_1.length : Int) > (300 : Int))) = true then
        some (2 : Int)
      else
        letO (α := Int) ((t0_1.length : Int)) fun t51_9 =>
        bindE (loopO (fun x : Int => lat_Check_L2 t0_1 q_6 t51_9 x) (0 : Int)) fun q_11 =>
        some (0 : Int)
noncomputable def lat_Both (l_1 : List Int) (a_2 : Int) (b_3 : Int) : Option (Int × Int × Int) :=
  (lat_Check l_1).bind fun r_4 =>
  if (r_4 != (0 : Int)) = true then
    some ((0 : Int), (0 : Int), r_4)
  else
    if ((((decide (a_2 < (0 : Int))) || (decide (a_2 ≥ (l_1.length : Int)))) || (decide (b_3 < (0 : Int)))) || (decide (b_3 ≥ (l_1.length : Int)))) = true then
      some ((0 : Int), (0 : Int), (1 : Int))
    else
      ck (0 ≤ a_2 ∧ a_2 < (l_1.length : Int)) <|
      ck (0 ≤ b_3 ∧ b_3 < (l_1.length : Int)) <|
      ck (0 ≤ a_2 ∧ a_2 < (l_1.length : Int)) <|
      ck (0 ≤ b_3 ∧ b_3 < (l_1.length : Int)) <|
      some (arR .or .u16 (l_1.getD a_2.toNat (0 : Int)) (l_1.getD b_3.toNat (0 : Int)), arR .and .u16 (l_1.getD a_2.toNat (0 : Int)) (l_1.getD b_3.toNat (0 : Int)), (0 : Int))
noncomputable def R_Rest (a_1 : Int) (n_2 : Int) : Option (Int) :=
  if (decide (n_2 ≤ (0 : Int))) = true then
    some (0 : Int)
  else
    ck (n_2 ≠ 0) <|
    ck (n_2 ≠ 0) <|
    some (arR .rem .i64 (arR .add .i64 (arR .rem .i64 a_1 n_2) n_2) n_2)
noncomputable def slices_Index_Luint16_uint16_L1 (s_1 : List Int) (v_2 : Int) (t7_3 : Int) (t8_4 : Int) : Option ((Int) ⊕ ((Unit) ⊕ (Int))) :=
  if (decide (t8_4 < t7_3)) = true then
    ck (0 ≤ t8_4 ∧ t8_4 < (s_1.length : Int)) <|
    if (v_2 == (s_1.getD t8_4.toNat (0 : Int))) = true then
      some (.inr (.inr t8_4))
    else
      some (.inl (arR .add .i64 t8_4 (1 : Int)))
  else
    some (.inr (.inl ()))
noncomputable def slices_Index_Luint16_uint16 (s_1 : List Int) (v_2 : Int) : Option (Int) :=
  letO (α := Int) ((s_1.length : Int)) fun t7_3 =>
  bindE (loopO (fun x : Int => slices_Index_Luint16_uint16_L1 s_1 v_2 t7_3 x) (0 : Int)) fun q_5 =>
  some (-1 : Int)
noncomputable def LatLaws_1 (s_1 : Int) (t1_2 : List Int) : Option (Int) :=
  (slices_Index_Luint16_uint16 t1_2 s_1).bind fun r_3 =>
  some r_3
noncomputable def LatLaws (t0_1 : List Int) (t1_2 : Int) (t2_3 : Int) (t3_4 : Int) : Option (Bool) :=
  (lat_Both [(0 : Int), (1 : Int), (2 : Int), (3 : Int)] (1 : Int) (2 : Int)).bind fun r_5 =>
  if (((r_5.2.2 != (0 : Int)) || (r_5.1 != (3 : Int))) || (r_5.2.1 != (0 : Int))) = true then
    some false
  else
    (lat_Check t0_1).bind fun r_6 =>
    if (r_6 != (0 : Int)) = true then
      some true
    else
      letO (α := Int) ((t0_1.length : Int)) fun t12_7 =>
      (R_Rest t1_2 t12_7).bind fun r_8 =>
      (R_Rest t2_3 t12_7).bind fun r_9 =>
      (R_Rest t3_4 t12_7).bind fun r_10 =>
      (lat_Both t0_1 r_9 r_10).bind fun r_11 =>
      (lat_Both t0_1 r_8 r_9).bind fun r_12 =>
      (lat_Both t0_1 r_8 r_10).bind fun r_13 =>
      letO ((LatLaws_1 r_11.1 t0_1).getD (0 : Int)) fun r_14 =>
      ck ((!((r_11.2.2 != (0 : Int)) || (r_13.2.2 != (0 : Int)))) = true → (LatLaws_1 r_11.1 t0_1).isSome = true) <|
      letO ((LatLaws_1 r_12.2.1 t0_1).getD (0 : Int)) fun r_15 =>
      ck ((!(((r_11.2.2 != (0 : Int)) || (r_13.2.2 != (0 : Int))) || (decide (r_14 < (0 : Int))))) = true → (LatLaws_1 r_12.2.1 t0_1).isSome = true) <|
      letO ((LatLaws_1 r_13.2.1 t0_1).getD (0 : Int)) fun r_16 =>
      ck ((!((((r_11.2.2 != (0 : Int)) || (r_13.2.2 != (0 : Int))) || (decide (r_14 < (0 : Int)))) || (decide (r_15 < (0 : Int))))) = true → (LatLaws_1 r_13.2.1 t0_1).isSome = true) <|
      if (((((r_11.2.2 != (0 : Int)) || (r_13.2.2 != (0 : Int))) || (decide (r_14 < (0 : Int)))) || (decide (r_15 < (0 : Int)))) || (decide (r_16 < (0 : Int)))) = true then
        some false
      else
        (LatLaws_1 r_11.1 t0_1).bind fun r_17 =>
        (lat_Both t0_1 r_8 r_17).bind fun r_18 =>
        (LatLaws_1 r_12.2.1 t0_1).bind fun r_19 =>
        (LatLaws_1 r_13.2.1 t0_1).bind fun r_20 =>
        (lat_Both t0_1 r_19 r_20).bind fun r_21 =>
        (LatLaws_1 r_12.2.1 t0_1).bind fun r_22 =>
        (lat_Both t0_1 r_8 r_22).bind fun r_23 =>
        ck ((r_18.2.1 == r_21.1) = true → 0 ≤ r_8 ∧ r_8 < (t0_1.length : Int)) <|
        some ((r_18.2.1 == r_21.1) && (r_23.1 == (t0_1.getD r_8.toNat (0 : Int))))
noncomputable def lat_Firm_L2 (l_1 : List Int) (s_9 : Int) (t24_10 : Int) (below_11 : Int) (t25_12 : Int) : Option ((Int × Int) ⊕ (Int)) :=
  if (decide (t25_12 < t24_10)) = true then
    ck (0 ≤ t25_12 ∧ t25_12 < (l_1.length : Int)) <|
    letO (α := Int) (l_1.getD t25_12.toNat (0 : Int)) fun t_15 =>
    mergeO ((t_15 != s_9) && ((arR .and .u16 t_15 s_9) == t_15)) (arR .or .u16 below_11 t_15) below_11 fun y_17 =>
    some (.inl (y_17, arR .add .i64 t25_12 (1 : Int)))
  else
    some (.inr below_11)
noncomputable def lat_Firm_J3 (t19_6 : Int) (out_18 : List Int) : Option ((List Int × Int) ⊕ (List Int)) :=
  some (.inl (out_18, arR .add .i64 t19_6 (1 : Int)))
noncomputable def lat_Firm_L1 (l_1 : List Int) (t17_3 : List Int) (t18_4 : Int) (out_5 : List Int) (t19_6 : Int) : Option ((List Int × Int) ⊕ (List Int)) :=
  if (decide (t19_6 < t18_4)) = true then
    ck (0 ≤ t19_6 ∧ t19_6 < (t17_3.length : Int)) <|
    letO (α := Int) (t17_3.getD t19_6.toNat (0 : Int)) fun s_9 =>
    letO (α := Int) ((l_1.length : Int)) fun t24_10 =>
    (loopO (fun x : Int × Int => lat_Firm_L2 l_1 s_9 t24_10 x.1 x.2) ((0 : Int), (0 : Int))).bind fun q_14 =>
    if (q_14 != s_9) = true then
      ck ((out_5.length : Int) + ([s_9].length : Int) ≤ maxL) <|
      lat_Firm_J3 t19_6 (out_5 ++ [s_9])
    else
      lat_Firm_J3 t19_6 out_5
  else
    some (.inr out_5)
noncomputable def lat_Firm (l_1 : List Int) : Option (List Int × Int) :=
  (lat_Check l_1).bind fun r_2 =>
  if (r_2 != (0 : Int)) = true then
    some (([] : List Int), r_2)
  else
    ck (0 ≤ (1 : Int) ∧ (1 : Int) ≤ (l_1.length : Int) ∧ (l_1.length : Int) ≤ (l_1.length : Int)) <|
    letO (α := List Int) ((l_1.take (l_1.length : Int).toNat).drop 1) fun t17_3 =>
    letO (α := Int) ((t17_3.length : Int)) fun t18_4 =>
    (loopO (fun x : List Int × Int => lat_Firm_L1 l_1 t17_3 t18_4 x.1 x.2) (([] : List Int), (0 : Int))).bind fun q_8 =>
    some (q_8, (0 : Int))
noncomputable def slices_Equal_Luint16_uint16_L1 (s1_1 : List Int) (s2_2 : List Int) (t12_3 : Int) (t13_4 : Int) : Option ((Int) ⊕ ((Unit) ⊕ (Bool))) :=
  if (decide (t13_4 < t12_3)) = true then
    ck (0 ≤ t13_4 ∧ t13_4 < (s1_1.length : Int)) <|
    ck (0 ≤ t13_4 ∧ t13_4 < (s2_2.length : Int)) <|
    if ((s1_1.getD t13_4.toNat (0 : Int)) != (s2_2.getD t13_4.toNat (0 : Int))) = true then
      some (.inr (.inr false))
    else
      some (.inl (arR .add .i64 t13_4 (1 : Int)))
  else
    some (.inr (.inl ()))
noncomputable def slices_Equal_Luint16_uint16 (s1_1 : List Int) (s2_2 : List Int) : Option (Bool) :=
  if ((s1_1.length : Int) != (s2_2.length : Int)) = true then
    some false
  else
    letO (α := Int) ((s1_1.length : Int)) fun t12_3 =>
    bindE (loopO (fun x : Int => slices_Equal_Luint16_uint16_L1 s1_1 s2_2 t12_3 x) (0 : Int)) fun q_5 =>
    some true
noncomputable def LatFirm_L2 (r_4 : List Int × Int) (t8_9 : Int) (t48_10 : Int) (t9_11 : Int) (t49_12 : Int) : Option ((Int × Int) ⊕ (Int)) :=
  if (decide (t49_12 < t48_10)) = true then
    ck (0 ≤ t49_12 ∧ t49_12 < (r_4.1.length : Int)) <|
    letO (α := Int) (r_4.1.getD t49_12.toNat (0 : Int)) fun t11_15 =>
    mergeO ((arR .andNot .u16 t11_15 t8_9) == (0 : Int)) (arR .or .u16 t9_11 t11_15) t9_11 fun y_17 =>
    some (.inl (y_17, arR .add .i64 t49_12 (1 : Int)))
  else
    some (.inr t9_11)
noncomputable def LatFirm_L1 (t0_1 : List Int) (r_4 : List Int × Int) (t42_6 : Int) (t43_7 : Int) : Option ((Int) ⊕ ((Unit) ⊕ (Bool))) :=
  if (decide (t43_7 < t42_6)) = true then
    ck (0 ≤ t43_7 ∧ t43_7 < (t0_1.length : Int)) <|
    letO (α := Int) (t0_1.getD t43_7.toNat (0 : Int)) fun t8_9 =>
    letO (α := Int) ((r_4.1.length : Int)) fun t48_10 =>
    (loopO (fun x : Int × Int => LatFirm_L2 r_4 t8_9 t48_10 x.1 x.2) ((0 : Int), (0 : Int))).bind fun q_14 =>
    if (q_14 != t8_9) = true then
      some (.inr (.inr false))
    else
      some (.inl (arR .add .i64 t43_7 (1 : Int)))
  else
    some (.inr (.inl ()))
noncomputable def LatFirm (t0_1 : List Int) : Option (Bool) :=
  (lat_Firm [(0 : Int), (1 : Int), (2 : Int), (3 : Int)]).bind fun r_2 =>
  letO ((slices_Equal_Luint16_uint16 r_2.1 [(1 : Int), (2 : Int)]).getD false) fun r_3 =>
  ck ((!(r_2.2 != (0 : Int))) = true → (slices_Equal_Luint16_uint16 r_2.1 [(1 : Int), (2 : Int)]).isSome = true) <|
  if ((r_2.2 != (0 : Int)) || (!r_3)) = true then
    some false
  else
    (lat_Firm t0_1).bind fun r_4 =>
    if (r_4.2 != (0 : Int)) = true then
      letO ((lat_Check t0_1).getD (0 : Int)) fun r_5 =>
      ck (((r_4.1.length : Int) == (0 : Int)) = true → (lat_Check t0_1).isSome = true) <|
      some (((r_4.1.length : Int) == (0 : Int)) && (r_5 == r_4.2))
    else
      letO (α := Int) ((t0_1.length : Int)) fun t42_6 =>
      bindE (loopO (fun x : Int => LatFirm_L1 t0_1 r_4 t42_6 x) (0 : Int)) fun q_8 =>
      some true
noncomputable def lat_Rises_L1 (t0_1 : List Int) (t1_2 : List Int) (t23_4 : Int) (t24_5 : Int) : Option ((Int) ⊕ ((Unit) ⊕ (Int))) :=
  if (decide (t24_5 < t23_4)) = true then
    ck (0 ≤ t24_5 ∧ t24_5 < (t1_2.length : Int)) <|
    letO (α := Int) (t1_2.getD t24_5.toNat (0 : Int)) fun t7_7 =>
    if ((decide (t7_7 < (0 : Int))) || (decide (t7_7 ≥ (t0_1.length : Int)))) = true then
      some (.inr (.inr (1 : Int)))
    else
      some (.inl (arR .add .i64 t24_5 (1 : Int)))
  else
    some (.inr (.inl ()))
noncomputable def lat_Rises_L3 (t0_1 : List Int) (t1_2 : List Int) (t39_9 : Int) (t9_11 : Int) (t45_12 : Int) (t46_13 : Int) : Option ((Int) ⊕ ((Unit) ⊕ ((Int) ⊕ ((Unit) ⊕ (Int))))) :=
  if (decide (t46_13 < t45_12)) = true then
    ck (0 ≤ t46_13 ∧ t46_13 < (t0_1.length : Int)) <|
    letO (α := Int) (t0_1.getD t46_13.toNat (0 : Int)) fun t11_15 =>
    ck (((arR .and .u16 t9_11 t11_15) == t9_11) = true → 0 ≤ t39_9 ∧ t39_9 < (t1_2.length : Int)) <|
    ck (((arR .and .u16 t9_11 t11_15) == t9_11) = true → 0 ≤ (t1_2.getD t39_9.toNat (0 : Int)) ∧ (t1_2.getD t39_9.toNat (0 : Int)) < (t0_1.length : Int)) <|
    ck (((arR .and .u16 t9_11 t11_15) == t9_11) = true → 0 ≤ t46_13 ∧ t46_13 < (t1_2.length : Int)) <|
    ck (((arR .and .u16 t9_11 t11_15) == t9_11) = true → 0 ≤ (t1_2.getD t46_13.toNat (0 : Int)) ∧ (t1_2.getD t46_13.toNat (0 : Int)) < (t0_1.length : Int)) <|
    ck (((arR .and .u16 t9_11 t11_15) == t9_11) = true → 0 ≤ t39_9 ∧ t39_9 < (t1_2.length : Int)) <|
    ck (((arR .and .u16 t9_11 t11_15) == t9_11) = true → 0 ≤ (t1_2.getD t39_9.toNat (0 : Int)) ∧ (t1_2.getD t39_9.toNat (0 : Int)) < (t0_1.length : Int)) <|
    if (((arR .and .u16 t9_11 t11_15) == t9_11) && ((arR .and .u16 (t0_1.getD (t1_2.getD t39_9.toNat (0 : Int)).toNat (0 : Int)) (t0_1.getD (t1_2.getD t46_13.toNat (0 : Int)).toNat (0 : Int))) != (t0_1.getD (t1_2.getD t39_9.toNat (0 : Int)).toNat (0 : Int)))) = true then
      some (.inr (.inr (.inr (.inr (11 : Int)))))
    else
      some (.inl (arR .add .i64 t46_13 (1 : Int)))
  else
    some (.inr (.inl ()))
noncomputable def lat_Rises_L2 (t0_1 : List Int) (t1_2 : List Int) (t38_8 : Int) (t39_9 : Int) : Option ((Int) ⊕ ((Unit) ⊕ (Int))) :=
  if (decide (t39_9 < t38_8)) = true then
    ck (0 ≤ t39_9 ∧ t39_9 < (t0_1.length : Int)) <|
    letO (α := Int) (t0_1.getD t39_9.toNat (0 : Int)) fun t9_11 =>
    letO (α := Int) ((t0_1.length : Int)) fun t45_12 =>
    bindE (loopO (fun x : Int => lat_Rises_L3 t0_1 t1_2 t39_9 t9_11 t45_12 x) (0 : Int)) fun q_14 =>
    some (.inl (arR .add .i64 t39_9 (1 : Int)))
  else
    some (.inr (.inl ()))
noncomputable def lat_Rises (t0_1 : List Int) (t1_2 : List Int) : Option (Int) :=
  (lat_Check t0_1).bind fun r_3 =>
  if (r_3 != (0 : Int)) = true then
    some r_3
  else
    if ((t1_2.length : Int) != (t0_1.length : Int)) = true then
      some (4 : Int)
    else
      letO (α := Int) ((t1_2.length : Int)) fun t23_4 =>
      bindE (loopO (fun x : Int => lat_Rises_L1 t0_1 t1_2 t23_4 x) (0 : Int)) fun q_6 =>
      letO (α := Int) ((t0_1.length : Int)) fun t38_8 =>
      bindE (loopO (fun x : Int => lat_Rises_L2 t0_1 t1_2 t38_8 x) (0 : Int)) fun q_10 =>
      some (0 : Int)
noncomputable def lat_Still_L1 (f_2 : List Int) (low_4 : Int) : Option ((Int) ⊕ (Int)) :=
  ck (0 ≤ low_4 ∧ low_4 < (f_2.length : Int)) <|
  if ((f_2.getD low_4.toNat (0 : Int)) != low_4) = true then
    ck (0 ≤ low_4 ∧ low_4 < (f_2.length : Int)) <|
    some (.inl (f_2.getD low_4.toNat (0 : Int)))
  else
    some (.inr low_4)
noncomputable def lat_Still_L2 (f_2 : List Int) (high_8 : Int) : Option ((Int) ⊕ (Int)) :=
  ck (0 ≤ high_8 ∧ high_8 < (f_2.length : Int)) <|
  if ((f_2.getD high_8.toNat (0 : Int)) != high_8) = true then
    ck (0 ≤ high_8 ∧ high_8 < (f_2.length : Int)) <|
    some (.inl (f_2.getD high_8.toNat (0 : Int)))
  else
    some (.inr high_8)
noncomputable def lat_Still (l_1 : List Int) (f_2 : List Int) : Option (Int × Int × Int) :=
  (lat_Rises l_1 f_2).bind fun r_3 =>
  if (r_3 != (0 : Int)) = true then
    some ((0 : Int), (0 : Int), r_3)
  else
    (loopO (fun x : Int => lat_Still_L1 f_2 x) (0 : Int)).bind fun q_6 =>
    letO (α := Int) (arR .sub .i64 (l_1.length : Int) (1 : Int)) fun high_7 =>
    (loopO (fun x : Int => lat_Still_L2 f_2 x) high_7).bind fun q_10 =>
    some (q_6, q_10, (0 : Int))
noncomputable def LatStill_L1 (t0_1 : List Int) (t1_2 : List Int) (r_4 : Int × Int × Int) (t67_6 : Int) (t68_7 : Int) : Option ((Int) ⊕ ((Unit) ⊕ (Bool))) :=
  if (decide (t68_7 < t67_6)) = true then
    ck (0 ≤ t68_7 ∧ t68_7 < (t1_2.length : Int)) <|
    letO (α := Int) (t1_2.getD t68_7.toNat (0 : Int)) fun t12_9 =>
    ck ((t68_7 == t12_9) = true → 0 ≤ r_4.1 ∧ r_4.1 < (t0_1.length : Int)) <|
    ck ((t68_7 == t12_9) = true → 0 ≤ t68_7 ∧ t68_7 < (t0_1.length : Int)) <|
    ck ((!((arR .andNot .u16 (t0_1.getD r_4.1.toNat (0 : Int)) (t0_1.getD t68_7.toNat (0 : Int))) != (0 : Int))) = true → (t68_7 == t12_9) = true → 0 ≤ t68_7 ∧ t68_7 < (t0_1.length : Int)) <|
    ck ((!((arR .andNot .u16 (t0_1.getD r_4.1.toNat (0 : Int)) (t0_1.getD t68_7.toNat (0 : Int))) != (0 : Int))) = true → (t68_7 == t12_9) = true → 0 ≤ r_4.2.1 ∧ r_4.2.1 < (t0_1.length : Int)) <|
    if ((t68_7 == t12_9) && (((arR .andNot .u16 (t0_1.getD r_4.1.toNat (0 : Int)) (t0_1.getD t68_7.toNat (0 : Int))) != (0 : Int)) || ((arR .andNot .u16 (t0_1.getD t68_7.toNat (0 : Int)) (t0_1.getD r_4.2.1.toNat (0 : Int))) != (0 : Int)))) = true then
      some (.inr (.inr false))
    else
      some (.inl (arR .add .i64 t68_7 (1 : Int)))
  else
    some (.inr (.inl ()))
noncomputable def LatStill (t0_1 : List Int) (t1_2 : List Int) : Option (Bool) :=
  (lat_Still [(0 : Int), (1 : Int), (3 : Int)] [(1 : Int), (1 : Int), (2 : Int)]).bind fun r_3 =>
  if (((r_3.2.2 != (0 : Int)) || (r_3.1 != (1 : Int))) || (r_3.2.1 != (2 : Int))) = true then
    some false
  else
    (lat_Still t0_1 t1_2).bind fun r_4 =>
    if (r_4.2.2 != (0 : Int)) = true then
      letO ((lat_Rises t0_1 t1_2).getD (0 : Int)) fun r_5 =>
      ck (((r_4.1 == (0 : Int)) && (r_4.2.1 == (0 : Int))) = true → (lat_Rises t0_1 t1_2).isSome = true) <|
      some (((r_4.1 == (0 : Int)) && (r_4.2.1 == (0 : Int))) && (r_5 == r_4.2.2))
    else
      ck (0 ≤ r_4.1 ∧ r_4.1 < (t1_2.length : Int)) <|
      ck ((!((t1_2.getD r_4.1.toNat (0 : Int)) != r_4.1)) = true → 0 ≤ r_4.2.1 ∧ r_4.2.1 < (t1_2.length : Int)) <|
      if (((t1_2.getD r_4.1.toNat (0 : Int)) != r_4.1) || ((t1_2.getD r_4.2.1.toNat (0 : Int)) != r_4.2.1)) = true then
        some false
      else
        letO (α := Int) ((t1_2.length : Int)) fun t67_6 =>
        bindE (loopO (fun x : Int => LatStill_L1 t0_1 t1_2 r_4 t67_6 x) (0 : Int)) fun q_8 =>
        some true
noncomputable def match_Check_L1 (m_1 : Int) (n_2 : Int) (l_3 : List ((Int × Int × Unit))) (t27_4 : Int) (t28_5 : Int) : Option ((Int) ⊕ ((Unit) ⊕ (Int))) :=
  if (decide (t28_5 < t27_4)) = true then
    ck (0 ≤ t28_5 ∧ t28_5 < (l_3.length : Int)) <|
    letO (α := (Int × Int × Unit)) (l_3.getD t28_5.toNat ((0 : Int), (0 : Int), ())) fun p_7 =>
    if ((((decide (p_7.1 < (0 : Int))) || (decide (p_7.1 ≥ m_1))) || (decide (p_7.2.1 < (0 : Int)))) || (decide (p_7.2.1 ≥ n_2))) = true then
      some (.inr (.inr (4 : Int)))
    else
      some (.inl (arR .add .i64 t28_5 (1 : Int)))
  else
    some (.inr (.inl ()))
noncomputable def match_Check (m_1 : Int) (n_2 : Int) (l_3 : List ((Int × Int × Unit))) : Option (Int) :=
  if ((((decide (m_1 < (0 : Int))) || (decide (m_1 > (40 : Int)))) || (decide (n_2 < (0 : Int)))) || (decide (n_2 > (40 : Int)))) = true then
    some (1 : Int)
  else
    if (decide ((l_3.length : Int) > (600 : Int))) = true then
      some (2 : Int)
    else
      letO (α := Int) ((l_3.length : Int)) fun t27_4 =>
      bindE (loopO (fun x : Int => match_Check_L1 m_1 n_2 l_3 t27_4 x) (0 : Int)) fun q_6 =>
      some (0 : Int)
noncomputable def poset_closed_L1 (p_1 : (Int × List ((Int × Int × Unit)) × Unit)) (t11_3 : Int) (t_4 : List (List Bool)) (t12_5 : Int) : Option ((List (List Bool) × Int) ⊕ (List (List Bool))) :=
  if (decide (t12_5 < t11_3)) = true then
    ck (0 ≤ t12_5 ∧ t12_5 < (p_1.2.1.length : Int)) <|
    letO (α := (Int × Int × Unit)) (p_1.2.1.getD t12_5.toNat ((0 : Int), (0 : Int), ())) fun x_8 =>
    ck (0 ≤ x_8.1 ∧ x_8.1 < 20) <|
    ck (0 ≤ x_8.2.1 ∧ x_8.2.1 < 20) <|
    letO (α := List (List Bool)) (t_4.set x_8.1.toNat ((t_4.getD x_8.1.toNat (List.replicate 20 false)).set x_8.2.1.toNat true)) fun t_9 =>
    some (.inl (t_9, arR .add .i64 t12_5 (1 : Int)))
  else
    some (.inr t_4)
noncomputable def poset_closed_L4 (p_1 : (Int × List ((Int × Int × Unit)) × Unit)) (t25_11 : Int) (t30_15 : Int) (t_18 : List (List Bool)) (t35_19 : Int) : Option ((List (List Bool) × Int) ⊕ (List (List Bool))) :=
  if (decide (t35_19 < p_1.1)) = true then
    ck (0 ≤ t30_15 ∧ t30_15 < 20) <|
    ck (0 ≤ t35_19 ∧ t35_19 < 20) <|
    ck ((!((t_18.getD t30_15.toNat (List.replicate 20 false)).getD t35_19.toNat false)) = true → 0 ≤ t30_15 ∧ t30_15 < 20) <|
    ck ((!((t_18.getD t30_15.toNat (List.replicate 20 false)).getD t35_19.toNat false)) = true → 0 ≤ t25_11 ∧ t25_11 < 20) <|
    ck (((t_18.getD t30_15.toNat (List.replicate 20 false)).getD t25_11.toNat false) = true → (!((t_18.getD t30_15.toNat (List.replicate 20 false)).getD t35_19.toNat false)) = true → 0 ≤ t25_11 ∧ t25_11 < 20) <|
    ck (((t_18.getD t30_15.toNat (List.replicate 20 false)).getD t25_11.toNat false) = true → (!((t_18.getD t30_15.toNat (List.replicate 20 false)).getD t35_19.toNat false)) = true → 0 ≤ t35_19 ∧ t35_19 < 20) <|
    ck (0 ≤ t30_15 ∧ t30_15 < 20) <|
    ck (0 ≤ t35_19 ∧ t35_19 < 20) <|
    letO (α := List (List Bool)) (t_18.set t30_15.toNat ((t_18.getD t30_15.toNat (List.replicate 20 false)).set t35_19.toNat (((t_18.getD t30_15.toNat (List.replicate 20 false)).getD t35_19.toNat false) || (((t_18.getD t30_15.toNat (List.replicate 20 false)).getD t25_11.toNat false) && ((t_18.getD t25_11.toNat (List.replicate 20 false)).getD t35_19.toNat false))))) fun t_22 =>
    some (.inl (t_22, arR .add .i64 t35_19 (1 : Int)))
  else
    some (.inr t_18)
noncomputable def poset_closed_L3 (p_1 : (Int × List ((Int × Int × Unit)) × Unit)) (t25_11 : Int) (t_14 : List (List Bool)) (t30_15 : Int) : Option ((List (List Bool) × Int) ⊕ (List (List Bool))) :=
  if (decide (t30_15 < p_1.1)) = true then
    (loopO (fun x : List (List Bool) × Int => poset_closed_L4 p_1 t25_11 t30_15 x.1 x.2) (t_14, (0 : Int))).bind fun q_21 =>
    some (.inl (q_21, arR .add .i64 t30_15 (1 : Int)))
  else
    some (.inr t_14)
noncomputable def poset_closed_L2 (p_1 : (Int × List ((Int × Int × Unit)) × Unit)) (t_10 : List (List Bool)) (t25_11 : Int) : Option ((List (List Bool) × Int) ⊕ (List (List Bool))) :=
  if (decide (t25_11 < p_1.1)) = true then
    (loopO (fun x : List (List Bool) × Int => poset_closed_L3 p_1 t25_11 x.1 x.2) (t_10, (0 : Int))).bind fun q_17 =>
    some (.inl (q_17, arR .add .i64 t25_11 (1 : Int)))
  else
    some (.inr t_10)
noncomputable def poset_closed (p_1 : (Int × List ((Int × Int × Unit)) × Unit)) : Option (List (List Bool)) :=
  letO (α := List (List Bool)) (List.replicate 20 (List.replicate 20 false)) fun t_2 =>
  letO (α := Int) ((p_1.2.1.length : Int)) fun t11_3 =>
  (loopO (fun x : List (List Bool) × Int => poset_closed_L1 p_1 t11_3 x.1 x.2) (t_2, (0 : Int))).bind fun q_7 =>
  (loopO (fun x : List (List Bool) × Int => poset_closed_L2 p_1 x.1 x.2) (q_7, (0 : Int))).bind fun q_13 =>
  some q_13
noncomputable def poset_Check_L1 (p_1 : (Int × List ((Int × Int × Unit)) × Unit)) (r_3 : List (List Bool)) (t28_4 : Int) : Option ((Int) ⊕ ((Unit) ⊕ (Int))) :=
  if (decide (t28_4 < p_1.1)) = true then
    ck (0 ≤ t28_4 ∧ t28_4 < 20) <|
    ck (0 ≤ t28_4 ∧ t28_4 < 20) <|
    if ((r_3.getD t28_4.toNat (List.replicate 20 false)).getD t28_4.toNat false) = true then
      some (.inr (.inr (9 : Int)))
    else
      some (.inl (arR .add .i64 t28_4 (1 : Int)))
  else
    some (.inr (.inl ()))
noncomputable def poset_Check (p_1 : (Int × List ((Int × Int × Unit)) × Unit)) : Option (Int) :=
  if ((decide (p_1.1 < (0 : Int))) || (decide (p_1.1 > (20 : Int)))) = true then
    some (1 : Int)
  else
    (match_Check p_1.1 p_1.1 p_1.2.1).bind fun r_2 =>
    if (r_2 != (0 : Int)) = true then
      some r_2
    else
      (poset_closed p_1).bind fun r_3 =>
      bindE (loopO (fun x : Int => poset_Check_L1 p_1 r_3 x) (0 : Int)) fun q_5 =>
      some (0 : Int)
noncomputable def poset_pairs_J3 (t13_8 : Int) (out_11 : List ((Int × Int × Unit))) : Option ((List ((Int × Int × Unit)) × Int) ⊕ (List ((Int × Int × Unit)))) :=
  some (.inl (out_11, arR .add .i64 t13_8 (1 : Int)))
noncomputable def poset_pairs_L2 (t_1 : List (List Bool)) (n_2 : Int) (t9_4 : Int) (out_7 : List ((Int × Int × Unit))) (t13_8 : Int) : Option ((List ((Int × Int × Unit)) × Int) ⊕ (List ((Int × Int × Unit)))) :=
  if (decide (t13_8 < n_2)) = true then
    ck (0 ≤ t9_4 ∧ t9_4 < 20) <|
    ck (0 ≤ t13_8 ∧ t13_8 < 20) <|
    if ((t_1.getD t9_4.toNat (List.replicate 20 false)).getD t13_8.toNat false) = true then
      ck ((out_7.length : Int) + ([(t9_4, t13_8, ())].length : Int) ≤ maxL) <|
      poset_pairs_J3 t13_8 (out_7 ++ [(t9_4, t13_8, ())])
    else
      poset_pairs_J3 t13_8 out_7
  else
    some (.inr out_7)
noncomputable def poset_pairs_L1 (t_1 : List (List Bool)) (n_2 : Int) (out_3 : List ((Int × Int × Unit))) (t9_4 : Int) : Option ((List ((Int × Int × Unit)) × Int) ⊕ (List ((Int × Int × Unit)))) :=
  if (decide (t9_4 < n_2)) = true then
    (loopO (fun x : List ((Int × Int × Unit)) × Int => poset_pairs_L2 t_1 n_2 t9_4 x.1 x.2) (out_3, (0 : Int))).bind fun q_10 =>
    some (.inl (q_10, arR .add .i64 t9_4 (1 : Int)))
  else
    some (.inr out_3)
noncomputable def poset_pairs (t_1 : List (List Bool)) (n_2 : Int) : Option (List ((Int × Int × Unit))) :=
  (loopO (fun x : List ((Int × Int × Unit)) × Int => poset_pairs_L1 t_1 n_2 x.1 x.2) (([] : List ((Int × Int × Unit))), (0 : Int))).bind fun q_6 =>
  some q_6
noncomputable def poset_Close (p_1 : (Int × List ((Int × Int × Unit)) × Unit)) : Option (List ((Int × Int × Unit)) × Int) :=
  (poset_Check p_1).bind fun r_2 =>
  if (r_2 != (0 : Int)) = true then
    some (([] : List ((Int × Int × Unit))), r_2)
  else
    (poset_closed p_1).bind fun r_3 =>
    (poset_pairs r_3 p_1.1).bind fun r_4 =>
    some (r_4, (0 : Int))
noncomputable def lat_Downs_L1 (r_2 : List ((Int × Int × Unit)) × Int) (t25_4 : Int) (t6_5 : List Int) (t26_6 : Int) : Option ((List Int × Int) ⊕ (List Int)) :=
  if (decide (t26_6 < t25_4)) = true then
    ck (0 ≤ t26_6 ∧ t26_6 < (r_2.1.length : Int)) <|
    letO (α := (Int × Int × Unit)) (r_2.1.getD t26_6.toNat ((0 : Int), (0 : Int), ())) fun t8_9 =>
    ck (0 ≤ t8_9.2.1 ∧ t8_9.2.1 < 12) <|
    ck (0 ≤ t8_9.1) <|
    ck (0 ≤ t8_9.2.1 ∧ t8_9.2.1 < 12) <|
    letO (α := List Int) (t6_5.set t8_9.2.1.toNat (arR .or .u16 (t6_5.getD t8_9.2.1.toNat (0 : Int)) (arR .shl .u16 (1 : Int) t8_9.1))) fun t6_10 =>
    some (.inl (t6_10, arR .add .i64 t26_6 (1 : Int)))
  else
    some (.inr t6_5)
noncomputable def lat_Downs_L3 (t0_1 : (Int × List ((Int × Int × Unit)) × Unit)) (q_8 : List Int) (t43_13 : Int) (t11_16 : Bool) (t48_17 : Int) : Option ((Bool × Int) ⊕ (Bool)) :=
  if (decide (t48_17 < t0_1.1)) = true then
    ck (t11_16 = true → 0 ≤ t48_17) <|
    ck ((!((arR .and .i64 (arR .shr .i64 t43_13 t48_17) (1 : Int)) == (0 : Int))) = true → t11_16 = true → 0 ≤ t48_17 ∧ t48_17 < 12) <|
    ck ((!((arR .and .i64 (arR .shr .i64 t43_13 t48_17) (1 : Int)) == (0 : Int))) = true → t11_16 = true → 0 ≤ t48_17 ∧ t48_17 < 12) <|
    letO (α := Bool) (t11_16 && (((arR .and .i64 (arR .shr .i64 t43_13 t48_17) (1 : Int)) == (0 : Int)) || ((arR .and .u16 (IntKind.wrap .u16 t43_13) (q_8.getD t48_17.toNat (0 : Int))) == (q_8.getD t48_17.toNat (0 : Int))))) fun t11_20 =>
    some (.inl (t11_20, arR .add .i64 t48_17 (1 : Int)))
  else
    some (.inr t11_16)
noncomputable def lat_Downs_J4 (t43_13 : Int) (t9_21 : List Int) : Option ((List Int × Int) ⊕ (List Int)) :=
  some (.inl (t9_21, arR .add .i64 t43_13 (1 : Int)))
noncomputable def lat_Downs_L2 (t0_1 : (Int × List ((Int × Int × Unit)) × Unit)) (q_8 : List Int) (t42_11 : Int) (t9_12 : List Int) (t43_13 : Int) : Option ((List Int × Int) ⊕ (List Int)) :=
  if (decide (t43_13 < t42_11)) = true then
    (loopO (fun x : Bool × Int => lat_Downs_L3 t0_1 q_8 t43_13 x.1 x.2) (true, (0 : Int))).bind fun q_19 =>
    if (q_19) = true then
      ck ((t9_12.length : Int) + (([IntKind.wrap .u16 t43_13]).length : Int) ≤ maxL) <|
      lat_Downs_J4 t43_13 (t9_12 ++ ([IntKind.wrap .u16 t43_13]))
    else
      lat_Downs_J4 t43_13 t9_12
  else
    some (.inr t9_12)
noncomputable def lat_Downs (t0_1 : (Int × List ((Int × Int × Unit)) × Unit)) : Option (List Int × Int) :=
  (poset_Close t0_1).bind fun r_2 =>
  if (r_2.2 != (0 : Int)) = true then
    some (([] : List Int), r_2.2)
  else
    if (decide (t0_1.1 > (12 : Int))) = true then
      some (([] : List Int), (2 : Int))
    else
      letO (α := List Int) (List.replicate 12 (0 : Int)) fun t6_3 =>
      letO (α := Int) ((r_2.1.length : Int)) fun t25_4 =>
      (loopO (fun x : List Int × Int => lat_Downs_L1 r_2 t25_4 x.1 x.2) (t6_3, (0 : Int))).bind fun q_8 =>
      ck (0 ≤ t0_1.1) <|
      letO (α := Int) (arR .shl .i64 (1 : Int) t0_1.1) fun t42_11 =>
      (loopO (fun x : List Int × Int => lat_Downs_L2 t0_1 q_8 t42_11 x.1 x.2) (([] : List Int), (0 : Int))).bind fun q_15 =>
      some (q_15, (0 : Int))
noncomputable def slices_Clone_LPair_Pair (s_1 : List ((Int × Int × Unit))) : Option (List ((Int × Int × Unit))) :=
  nilO (s_1.length : Int) fun nil_2 =>
  if (nil_2) = true then
    some ([] : List ((Int × Int × Unit)))
  else
    ck ((([] : List ((Int × Int × Unit))).length : Int) + (s_1.length : Int) ≤ maxL) <|
    some (([] : List ((Int × Int × Unit))) ++ s_1)
noncomputable def LatSizes_L1 (r_6 : Int) (t9_7 : List ((Int × Int × Unit))) (t10_8 : Int) : Option ((List ((Int × Int × Unit)) × Int) ⊕ (List ((Int × Int × Unit)))) :=
  if (decide (t10_8 < r_6)) = true then
    ck ((t9_7.length : Int) + (([(arR .sub .i64 t10_8 (1 : Int), t10_8, ())]).length : Int) ≤ maxL) <|
    letO (α := List ((Int × Int × Unit))) (t9_7 ++ ([(arR .sub .i64 t10_8 (1 : Int), t10_8, ())])) fun t9_11 =>
    some (.inl (t9_11, arR .add .i64 t10_8 (1 : Int)))
  else
    some (.inr t9_7)
noncomputable def LatSizes (t0_1 : Int) (t1_2 : (Int × List ((Int × Int × Unit)) × Unit)) (t2_3 : (Int × Int × Unit)) : Option (Bool) :=
  (lat_Downs ((0 : Int), ([] : List ((Int × Int × Unit))), ())).bind fun r_4 =>
  letO ((slices_Equal_Luint16_uint16 r_4.1 [(0 : Int)]).getD false) fun r_5 =>
  ck ((!(r_4.2 != (0 : Int))) = true → (slices_Equal_Luint16_uint16 r_4.1 [(0 : Int)]).isSome = true) <|
  if ((r_4.2 != (0 : Int)) || (!r_5)) = true then
    some false
  else
    (R_Rest t0_1 (9 : Int)).bind fun r_6 =>
    (loopO (fun x : List ((Int × Int × Unit)) × Int => LatSizes_L1 r_6 x.1 x.2) (([] : List ((Int × Int × Unit))), (1 : Int))).bind fun q_10 =>
    (lat_Downs (r_6, q_10, ())).bind fun r_12 =>
    (lat_Downs (r_6, ([] : List ((Int × Int × Unit))), ())).bind fun r_13 =>
    ck ((!(((r_12.2 != (0 : Int)) || (r_13.2 != (0 : Int))) || ((r_12.1.length : Int) != (arR .add .i64 r_6 (1 : Int))))) = true → 0 ≤ r_6) <|
    if ((((r_12.2 != (0 : Int)) || (r_13.2 != (0 : Int))) || ((r_12.1.length : Int) != (arR .add .i64 r_6 (1 : Int)))) || ((r_13.1.length : Int) != (arR .shl .i64 (1 : Int) r_6))) = true then
      some false
    else
      (lat_Downs t1_2).bind fun r_14 =>
      (slices_Clone_LPair_Pair t1_2.2.1).bind fun r_15 =>
      ck ((r_15.length : Int) + ([t2_3].length : Int) ≤ maxL) <|
      (lat_Downs (t1_2.1, r_15 ++ [t2_3], ())).bind fun r_16 =>
      some (((r_14.2 != (0 : Int)) || (r_16.2 != (0 : Int))) || (decide ((r_16.1.length : Int) ≤ (r_14.1.length : Int))))
noncomputable def lat_Back_J3 (t32_12 : Int) (out_16 : List ((Int × Int × Unit))) : Option ((List ((Int × Int × Unit)) × Int) ⊕ (List ((Int × Int × Unit)))) :=
  some (.inl (out_16, arR .add .i64 t32_12 (1 : Int)))
noncomputable def lat_Back_L2 (r_2 : List Int × Int) (t25_6 : Int) (s_9 : Int) (t31_10 : Int) (out_11 : List ((Int × Int × Unit))) (t32_12 : Int) : Option ((List ((Int × Int × Unit)) × Int) ⊕ (List ((Int × Int × Unit)))) :=
  if (decide (t32_12 < t31_10)) = true then
    ck (0 ≤ t32_12 ∧ t32_12 < (r_2.1.length : Int)) <|
    letO (α := Int) (r_2.1.getD t32_12.toNat (0 : Int)) fun t_15 =>
    if ((t25_6 != t32_12) && ((arR .and .u16 s_9 t_15) == s_9)) = true then
      ck ((out_11.length : Int) + ([(t25_6, t32_12, ())].length : Int) ≤ maxL) <|
      lat_Back_J3 t32_12 (out_11 ++ [(t25_6, t32_12, ())])
    else
      lat_Back_J3 t32_12 out_11
  else
    some (.inr out_11)
noncomputable def lat_Back_L1 (r_2 : List Int × Int) (t24_4 : Int) (out_5 : List ((Int × Int × Unit))) (t25_6 : Int) : Option ((List ((Int × Int × Unit)) × Int) ⊕ (List ((Int × Int × Unit)))) :=
  if (decide (t25_6 < t24_4)) = true then
    ck (0 ≤ t25_6 ∧ t25_6 < (r_2.1.length : Int)) <|
    letO (α := Int) (r_2.1.getD t25_6.toNat (0 : Int)) fun s_9 =>
    letO (α := Int) ((r_2.1.length : Int)) fun t31_10 =>
    (loopO (fun x : List ((Int × Int × Unit)) × Int => lat_Back_L2 r_2 t25_6 s_9 t31_10 x.1 x.2) (out_5, (0 : Int))).bind fun q_14 =>
    some (.inl (q_14, arR .add .i64 t25_6 (1 : Int)))
  else
    some (.inr out_5)
noncomputable def lat_Back (l_1 : List Int) : Option ((Int × List ((Int × Int × Unit)) × Unit) × Int) :=
  (lat_Firm l_1).bind fun r_2 =>
  if (r_2.2 != (0 : Int)) = true then
    some (((0 : Int), ([] : List ((Int × Int × Unit))), ()), r_2.2)
  else
    letO (α := Int) ((r_2.1.length : Int)) fun out_3 =>
    letO (α := Int) ((r_2.1.length : Int)) fun t24_4 =>
    (loopO (fun x : List ((Int × Int × Unit)) × Int => lat_Back_L1 r_2 t24_4 x.1 x.2) (([] : List ((Int × Int × Unit))), (0 : Int))).bind fun q_8 =>
    some ((out_3, q_8, ()), (0 : Int))
noncomputable def LatBack (t0_1 : (Int × List ((Int × Int × Unit)) × Unit)) : Option (Bool) :=
  (lat_Downs ((2 : Int), [((0 : Int), (1 : Int), ())], ())).bind fun r_2 =>
  letO ((slices_Equal_Luint16_uint16 r_2.1 [(0 : Int), (1 : Int), (3 : Int)]).getD false) fun r_3 =>
  ck ((!(r_2.2 != (0 : Int))) = true → (slices_Equal_Luint16_uint16 r_2.1 [(0 : Int), (1 : Int), (3 : Int)]).isSome = true) <|
  if ((r_2.2 != (0 : Int)) || (!r_3)) = true then
    some false
  else
    (lat_Downs t0_1).bind fun r_4 =>
    if (r_4.2 != (0 : Int)) = true then
      some ((r_4.1.length : Int) == (0 : Int))
    else
      (lat_Back r_4.1).bind fun r_5 =>
      if (r_5.2 != (0 : Int)) = true then
        some ((r_5.2 == (2 : Int)) && (decide ((r_4.1.length : Int) > (300 : Int))))
      else
        (lat_Downs r_5.1).bind fun r_6 =>
        (poset_Close t0_1).bind fun r_7 =>
        some ((((r_6.2 == (0 : Int)) && (r_5.1.1 == t0_1.1)) && ((r_6.1.length : Int) == (r_4.1.length : Int))) && ((r_5.1.2.1.length : Int) == (r_7.1.length : Int)))
end Go.Proofs.Ytaachifkgcdeoaa.Lt
