/- Functions of the program as functions that may fail, and that the code computes them (printed). Each theorem bears its conditions itself. -/
import Derived.Test.YtiddimfepemohaaSyf
open Go Go.Proofs.Ytiddimfepemohaa.Sy
set_option maxHeartbeats 4000000
set_option maxRecDepth 100000
set_option cbv.maxSteps 10000000
set_option linter.unusedVariables false
set_option linter.unusedSimpArgs false
namespace Go.Proofs.Ytiddimfepemohaa.Rg
noncomputable def slices_Index_Lint_int_L1 (s_1 : List Int) (v_2 : Int) (t7_3 : Int) (t8_4 : Int) : Option ((Int) ⊕ ((Unit) ⊕ (Int))) :=
  if (decide (t8_4 < t7_3)) = true then
    ck (0 ≤ t8_4 ∧ t8_4 < (s_1.length : Int)) <|
    if (v_2 == (s_1.getD t8_4.toNat (0 : Int))) = true then
      some (.inr (.inr t8_4))
    else
      some (.inl (arR .add .i64 t8_4 (1 : Int)))
  else
    some (.inr (.inl ()))
noncomputable def slices_Index_Lint_int (s_1 : List Int) (v_2 : Int) : Option (Int) :=
  letO (α := Int) ((s_1.length : Int)) fun t7_3 =>
  bindE (loopO (fun x : Int => slices_Index_Lint_int_L1 s_1 v_2 t7_3 x) (0 : Int)) fun q_5 =>
  some (-1 : Int)
noncomputable def slices_Contains_Lint_int (s_1 : List Int) (v_2 : Int) : Option (Bool) :=
  (slices_Index_Lint_int s_1 v_2).bind fun r_3 =>
  some (decide (r_3 ≥ (0 : Int)))
noncomputable def ring_Check_L1 (l_1 : List Int) (t14_2 : Int) (t15_3 : Int) : Option ((Int) ⊕ ((Unit) ⊕ (Int))) :=
  if (decide (t15_3 < t14_2)) = true then
    ck (0 ≤ t15_3 ∧ t15_3 < (l_1.length : Int)) <|
    letO (α := Int) (l_1.getD t15_3.toNat (0 : Int)) fun x_5 =>
    if ((decide (x_5 < (0 : Int))) || (decide (x_5 > (16777215 : Int)))) = true then
      some (.inr (.inr (1 : Int)))
    else
      ck (0 ≤ (0 : Int) ∧ (0 : Int) ≤ t15_3 ∧ t15_3 ≤ (l_1.length : Int)) <|
      (slices_Contains_Lint_int ((l_1.take t15_3.toNat).drop 0) x_5).bind fun r_6 =>
      if (r_6) = true then
        some (.inr (.inr (4 : Int)))
      else
        some (.inl (arR .add .i64 t15_3 (1 : Int)))
  else
    some (.inr (.inl ()))
noncomputable def ring_Check (l_1 : List Int) : Option (Int) :=
  if ((decide ((l_1.length : Int) < (1 : Int))) || (decide ((l_1.length : Int) > (30 : Int)))) = true then
    some (1 : Int)
  else
    letO (α := Int) ((l_1.length : Int)) fun t14_2 =>
    bindE (loopO (fun x : Int => ring_Check_L1 l_1 t14_2 x) (0 : Int)) fun q_4 =>
    some (0 : Int)
noncomputable def ring_Round_L2 (l_1 : List Int) (n_3 : Int) (t22_6 : Int) (lead_7 : Int) (x_11 : Int) (sent_12 : Int) (k_13 : Int) : Option ((Int × Int) ⊕ (Int × Int)) :=
  letO (α := Int) (arR .add .i64 sent_12 (1 : Int)) fun sent_17 =>
  ck (n_3 ≠ 0) <|
  letO (α := Int) (arR .rem .i64 (arR .add .i64 t22_6 k_13) n_3) fun at_18 =>
  if (at_18 == t22_6) = true then
    some (.inr (sent_17, t22_6))
  else
    ck (0 ≤ at_18 ∧ at_18 < (l_1.length : Int)) <|
    if (decide ((l_1.getD at_18.toNat (0 : Int)) > x_11)) = true then
      some (.inr (sent_17, lead_7))
    else
      some (.inl (sent_17, arR .add .i64 k_13 (1 : Int)))
noncomputable def ring_Round_L1 (l_1 : List Int) (n_3 : Int) (t21_4 : Int) (sent_5 : Int) (lead_7 : Int) (t22_6 : Int) : Option ((Int × Int × Int) ⊕ (Int × Int)) :=
  if (decide (t22_6 < t21_4)) = true then
    ck (0 ≤ t22_6 ∧ t22_6 < (l_1.length : Int)) <|
    letO (α := Int) (l_1.getD t22_6.toNat (0 : Int)) fun x_11 =>
    (loopO (fun x : Int × Int => ring_Round_L2 l_1 n_3 t22_6 lead_7 x_11 x.1 x.2) (sent_5, (1 : Int))).bind fun q_16 =>
    some (.inl (q_16.1, q_16.2, arR .add .i64 t22_6 (1 : Int)))
  else
    some (.inr (sent_5, lead_7))
noncomputable def ring_Round (l_1 : List Int) : Option (Int × Int × Int) :=
  (ring_Check l_1).bind fun r_2 =>
  if (r_2 != (0 : Int)) = true then
    some ((0 : Int), (0 : Int), r_2)
  else
    letO (α := Int) ((l_1.length : Int)) fun n_3 =>
    letO (α := Int) ((l_1.length : Int)) fun t21_4 =>
    (loopO (fun x : Int × Int × Int => ring_Round_L1 l_1 n_3 t21_4 x.1 x.2.1 x.2.2) ((0 : Int), (0 : Int), (0 : Int))).bind fun q_10 =>
    some (q_10.2, q_10.1, (0 : Int))
noncomputable def R_Rest (a_1 : Int) (n_2 : Int) : Option (Int) :=
  if (decide (n_2 ≤ (0 : Int))) = true then
    some (0 : Int)
  else
    ck (n_2 ≠ 0) <|
    ck (n_2 ≠ 0) <|
    some (arR .rem .i64 (arR .add .i64 (arR .rem .i64 a_1 n_2) n_2) n_2)
noncomputable def RingRound_L1 (t1_7 : Int) (t12_8 : List Int) (t13_9 : List Int) (t63_10 : Int) : Option ((List Int × List Int × Int) ⊕ (List Int × List Int)) :=
  if (decide (t63_10 < t1_7)) = true then
    ck ((t12_8.length : Int) + ([t63_10].length : Int) ≤ maxL) <|
    ck ((t13_9.length : Int) + (([arR .sub .i64 t1_7 t63_10]).length : Int) ≤ maxL) <|
    letO (α := List Int) (t12_8 ++ [t63_10]) fun t12_14 =>
    letO (α := List Int) (t13_9 ++ ([arR .sub .i64 t1_7 t63_10])) fun t13_15 =>
    some (.inl (t12_14, t13_15, arR .add .i64 t63_10 (1 : Int)))
  else
    some (.inr (t12_8, t13_9))
noncomputable def RingRound (t0_1 : List Int) (t1_2 : Int) : Option (Bool) :=
  (ring_Round [(7 : Int)]).bind fun r_3 =>
  if ((r_3.2.2 != (0 : Int)) || (r_3.2.1 != (1 : Int))) = true then
    some false
  else
    (ring_Round t0_1).bind fun r_4 =>
    letO (α := Int) ((t0_1.length : Int)) fun t11_5 =>
    ck ((!(decide (r_4.2.1 < (arR .sub .i64 (arR .mul .i64 (2 : Int) t11_5) (1 : Int))))) = true → (r_4.2.2 == (0 : Int)) = true → (2 : Int) ≠ 0) <|
    if ((r_4.2.2 == (0 : Int)) && ((decide (r_4.2.1 < (arR .sub .i64 (arR .mul .i64 (2 : Int) t11_5) (1 : Int)))) || (decide (r_4.2.1 > (arR .quo .i64 (arR .mul .i64 t11_5 (arR .add .i64 t11_5 (1 : Int))) (2 : Int)))))) = true then
      some false
    else
      (R_Rest t1_2 (30 : Int)).bind fun r_6 =>
      letO (α := Int) (arR .add .i64 r_6 (1 : Int)) fun t1_7 =>
      (loopO (fun x : List Int × List Int × Int => RingRound_L1 t1_7 x.1 x.2.1 x.2.2) (([] : List Int), ([] : List Int), (0 : Int))).bind fun q_13 =>
      (ring_Round q_13.1).bind fun r_16 =>
      (ring_Round q_13.2).bind fun r_17 =>
      ck ((((r_16.2.2 == (0 : Int)) && (r_17.2.2 == (0 : Int))) && (r_16.2.1 == (arR .sub .i64 (arR .mul .i64 (2 : Int) t1_7) (1 : Int)))) = true → (2 : Int) ≠ 0) <|
      some ((((r_16.2.2 == (0 : Int)) && (r_17.2.2 == (0 : Int))) && (r_16.2.1 == (arR .sub .i64 (arR .mul .i64 (2 : Int) t1_7) (1 : Int)))) && (r_17.2.1 == (arR .quo .i64 (arR .mul .i64 t1_7 (arR .add .i64 t1_7 (1 : Int))) (2 : Int))))
noncomputable def ring_probe_L1 (l_1 : List Int) (i_2 : Int) (way_3 : Int) (far_4 : Int) (n_5 : Int) (k_6 : Int) : Option ((Int) ⊕ ((Unit) ⊕ (Int × Bool))) :=
  if (decide (k_6 ≤ far_4)) = true then
    ck (n_5 ≠ 0) <|
    letO (α := Int) (arR .rem .i64 (arR .add .i64 i_2 (arR .mul .i64 k_6 way_3)) n_5) fun at_8 =>
    if (at_8 == i_2) = true then
      some (.inr (.inr (k_6, true)))
    else
      ck (0 ≤ at_8 ∧ at_8 < (l_1.length : Int)) <|
      ck (0 ≤ i_2 ∧ i_2 < (l_1.length : Int)) <|
      if (decide ((l_1.getD at_8.toNat (0 : Int)) > (l_1.getD i_2.toNat (0 : Int)))) = true then
        some (.inr (.inr (k_6, false)))
      else
        some (.inl (arR .add .i64 k_6 (1 : Int)))
  else
    some (.inr (.inl ()))
noncomputable def ring_probe (l_1 : List Int) (i_2 : Int) (way_3 : Int) (far_4 : Int) : Option (Int × Bool) :=
  letO (α := Int) ((l_1.length : Int)) fun n_5 =>
  bindE (loopO (fun x : Int => ring_probe_L1 l_1 i_2 way_3 far_4 n_5 x) (1 : Int)) fun q_7 =>
  some (arR .mul .i64 (2 : Int) far_4, true)
noncomputable def ring_Halves_L1 (t26_4 : Int) (t8_5 : List Int) (t27_6 : Int) : Option ((List Int × Int) ⊕ (List Int)) :=
  if (decide (t27_6 < t26_4)) = true then
    ck ((t8_5.length : Int) + ([t27_6].length : Int) ≤ maxL) <|
    letO (α := List Int) (t8_5 ++ [t27_6]) fun t8_9 =>
    some (.inl (t8_9, arR .add .i64 t27_6 (1 : Int)))
  else
    some (.inr t8_5)
noncomputable def ring_Halves_J4 (t39_16 : Int) (t7_23 : Int) (t11_24 : List Int) : Option ((Int × List Int × Int) ⊕ ((Int × List Int) ⊕ ((Int × List Int × Int) ⊕ (Int × Int × Int)))) :=
  some (.inl (t7_23, t11_24, arR .add .i64 t39_16 (1 : Int)))
noncomputable def ring_Halves_L3 (t0_1 : List Int) (t6_3 : Int) (t8_11 : List Int) (t10_12 : Int) (t38_13 : Int) (t7_14 : Int) (t11_15 : List Int) (t39_16 : Int) : Option ((Int × List Int × Int) ⊕ ((Int × List Int) ⊕ ((Int × List Int × Int) ⊕ (Int × Int × Int)))) :=
  if (decide (t39_16 < t38_13)) = true then
    ck (0 ≤ t39_16 ∧ t39_16 < (t8_11.length : Int)) <|
    letO (α := Int) (t8_11.getD t39_16.toNat (0 : Int)) fun t13_20 =>
    (ring_probe t0_1 t13_20 (1 : Int) t10_12).bind fun r_21 =>
    (ring_probe t0_1 t13_20 (arR .sub .i64 t6_3 (1 : Int)) t10_12).bind fun r_22 =>
    letO (α := Int) (arR .add .i64 t7_14 (arR .add .i64 r_21.1 r_22.1)) fun t7_23 =>
    if (r_21.2 && r_22.2) = true then
      if (decide (t10_12 ≥ t6_3)) = true then
        some (.inr (.inr (.inr (t13_20, t7_23, (0 : Int)))))
      else
        ck ((t11_15.length : Int) + ([t13_20].length : Int) ≤ maxL) <|
        ring_Halves_J4 t39_16 t7_23 (t11_15 ++ [t13_20])
    else
      ring_Halves_J4 t39_16 t7_23 t11_15
  else
    some (.inr (.inl (t7_14, t11_15)))
noncomputable def ring_Halves_L2 (t0_1 : List Int) (t6_3 : Int) (t7_10 : Int) (t8_11 : List Int) (t10_12 : Int) : Option ((Int × List Int × Int) ⊕ (Int × Int × Int)) :=
  letO (α := Int) ((t8_11.length : Int)) fun t38_13 =>
  bindE (loopO (fun x : Int × List Int × Int => ring_Halves_L3 t0_1 t6_3 t8_11 t10_12 t38_13 x.1 x.2.1 x.2.2) (t7_10, ([] : List Int), (0 : Int))) fun q_19 =>
  some (.inl (q_19.1, q_19.2, arR .mul .i64 t10_12 (2 : Int)))
noncomputable def ring_Halves (t0_1 : List Int) : Option (Int × Int × Int) :=
  (ring_Check t0_1).bind fun r_2 =>
  if (r_2 != (0 : Int)) = true then
    some ((0 : Int), (0 : Int), r_2)
  else
    letO (α := Int) ((t0_1.length : Int)) fun t6_3 =>
    letO (α := Int) ((t0_1.length : Int)) fun t26_4 =>
    (loopO (fun x : List Int × Int => ring_Halves_L1 t26_4 x.1 x.2) (([] : List Int), (0 : Int))).bind fun q_8 =>
    loopO (fun x : Int × List Int × Int => ring_Halves_L2 t0_1 t6_3 x.1 x.2.1 x.2.2) ((0 : Int), q_8, (1 : Int))
noncomputable def RingHalves_L1 (n_4 : Int) (doublings_5 : Int) : Option ((Int) ⊕ (Int)) :=
  ck (0 ≤ doublings_5) <|
  if (decide ((arR .shl .i64 (1 : Int) doublings_5) < n_4)) = true then
    some (.inl (arR .add .i64 doublings_5 (1 : Int)))
  else
    some (.inr doublings_5)
noncomputable def RingHalves (l_1 : List Int) : Option (Bool) :=
  (ring_Halves [(7 : Int), (3 : Int)]).bind fun r_2 =>
  if (((r_2.2.2 != (0 : Int)) || (r_2.1 != (0 : Int))) || (decide (r_2.2.1 < (4 : Int)))) = true then
    some false
  else
    (ring_Halves l_1).bind fun r_3 =>
    if (r_3.2.2 != (0 : Int)) = true then
      some (r_3.2.1 == (0 : Int))
    else
      letO (α := Int) ((l_1.length : Int)) fun n_4 =>
      (loopO (fun x : Int => RingHalves_L1 n_4 x) (0 : Int)).bind fun q_7 =>
      some ((decide (r_3.2.1 ≥ (arR .mul .i64 (2 : Int) n_4))) && (decide (r_3.2.1 ≤ (arR .add .i64 (arR .mul .i64 (4 : Int) n_4) (arR .mul .i64 (arR .mul .i64 (8 : Int) n_4) q_7)))))
noncomputable def RingOrder_L1 (t0_1 : List Int) (t38_3 : Int) (t6_4 : List Int) (t39_5 : Int) : Option ((List Int × Int) ⊕ ((List Int) ⊕ (Bool))) :=
  if (decide (t39_5 < t38_3)) = true then
    ck (0 ≤ t39_5 ∧ t39_5 < (t0_1.length : Int)) <|
    letO (α := Int) (t0_1.getD t39_5.toNat (0 : Int)) fun t8_8 =>
    if ((decide (t8_8 < (0 : Int))) || (decide (t8_8 > (1000000 : Int)))) = true then
      some (.inr (.inr true))
    else
      ck ((t6_4.length : Int) + (([arR .add .i64 (arR .mul .i64 (2 : Int) t8_8) (1 : Int)]).length : Int) ≤ maxL) <|
      letO (α := List Int) (t6_4 ++ ([arR .add .i64 (arR .mul .i64 (2 : Int) t8_8) (1 : Int)])) fun t6_9 =>
      some (.inl (t6_9, arR .add .i64 t39_5 (1 : Int)))
  else
    some (.inr (.inl t6_4))
noncomputable def RingOrder (t0_1 : List Int) : Option (Bool) :=
  (ring_Round [(1 : Int), (2 : Int)]).bind fun r_2 =>
  if (((r_2.2.2 != (0 : Int)) || (r_2.1 != (1 : Int))) || (r_2.2.1 != (3 : Int))) = true then
    some false
  else
    letO (α := Int) ((t0_1.length : Int)) fun t38_3 =>
    bindE (loopO (fun x : List Int × Int => RingOrder_L1 t0_1 t38_3 x.1 x.2) (([] : List Int), (0 : Int))) fun q_7 =>
    (ring_Round t0_1).bind fun r_10 =>
    (ring_Round q_7).bind fun r_11 =>
    (ring_Halves t0_1).bind fun r_12 =>
    (ring_Halves q_7).bind fun r_13 =>
    some ((((((r_10.1 == r_11.1) && (r_10.2.1 == r_11.2.1)) && (r_10.2.2 == r_11.2.2)) && (r_12.1 == r_13.1)) && (r_12.2.1 == r_13.2.1)) && (r_12.2.2 == r_13.2.2))
noncomputable def slices_Max_Lint_int_L1 (x_1 : List Int) (m_3 : Int) (i_4 : Int) : Option ((Int × Int) ⊕ (Int)) :=
  if (decide (i_4 < (x_1.length : Int))) = true then
    ck (0 ≤ i_4 ∧ i_4 < (x_1.length : Int)) <|
    letO (α := Int) (mxI m_3 (x_1.getD i_4.toNat (0 : Int))) fun m_7 =>
    some (.inl (m_7, arR .add .i64 i_4 (1 : Int)))
  else
    some (.inr m_3)
noncomputable def slices_Max_Lint_int (x_1 : List Int) : Option (Int) :=
  if (decide ((x_1.length : Int) < (1 : Int))) = true then
    none
  else
    ck (0 ≤ (0 : Int) ∧ (0 : Int) < (x_1.length : Int)) <|
    letO (α := Int) (x_1.getD 0 (0 : Int)) fun m_2 =>
    (loopO (fun x : Int × Int => slices_Max_Lint_int_L1 x_1 x.1 x.2) (m_2, (1 : Int))).bind fun q_6 =>
    some q_6
noncomputable def RingFirst (t0_1 : List Int) : Option (Bool) :=
  (ring_Round [(2 : Int), (9 : Int), (4 : Int)]).bind fun r_2 =>
  if (((r_2.2.2 != (0 : Int)) || (r_2.1 != (1 : Int))) || (r_2.2.1 != (6 : Int))) = true then
    some false
  else
    (ring_Round t0_1).bind fun r_3 =>
    (ring_Halves t0_1).bind fun r_4 =>
    if ((r_3.2.2 != (0 : Int)) || (r_4.2.2 != (0 : Int))) = true then
      some (((((r_3.2.2 == r_4.2.2) && (r_3.1 == (0 : Int))) && (r_4.1 == (0 : Int))) && (r_3.2.1 == (0 : Int))) && (r_4.2.1 == (0 : Int)))
    else
      ck ((((r_3.1 == r_4.1) && (decide (r_3.1 ≥ (0 : Int)))) && (decide (r_3.1 < (t0_1.length : Int)))) = true → 0 ≤ r_3.1 ∧ r_3.1 < (t0_1.length : Int)) <|
      letO ((slices_Max_Lint_int t0_1).getD (0 : Int)) fun r_5 =>
      ck ((((r_3.1 == r_4.1) && (decide (r_3.1 ≥ (0 : Int)))) && (decide (r_3.1 < (t0_1.length : Int)))) = true → (slices_Max_Lint_int t0_1).isSome = true) <|
      some ((((r_3.1 == r_4.1) && (decide (r_3.1 ≥ (0 : Int)))) && (decide (r_3.1 < (t0_1.length : Int)))) && ((t0_1.getD r_3.1.toNat (0 : Int)) == r_5))
end Go.Proofs.Ytiddimfepemohaa.Rg
