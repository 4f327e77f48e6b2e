/- More plain lemmas. -/
import Derived.Test.YtdahfpfkjljojaaPure0
open Go Go.Proofs.Ytdahfpfkjljojaa.Sy
set_option linter.unusedVariables false
namespace Go.Proofs.Ytdahfpfkjljojaa.Pu
theorem tmod_rest' (a n : Int) (hn : 0 < n) : (a.tmod n + n).tmod n = a % n := by
  have h1 := Int.tmod_lt_of_pos a hn
  have h2 : -n < a.tmod n := Int.lt_tmod_of_pos a hn
  rw [Int.tmod_eq_emod_of_nonneg (by omega), Int.add_emod_right]
  rw [Int.tmod_def]
  rw [Int.sub_emod, Int.mul_emod_right]
  simp
theorem bool_dich (b : Bool) : b = true ∨ b = false := by cases b <;> simp
theorem mxI_le {x y z : Int} (h1 : x ≤ z) (h2 : y ≤ z) : mxI x y ≤ z := by have := mxI_cases x y; omega
theorem mul64 {x y : Int} (h1 : -9223372036854775808 ≤ x * y) (h2 : x * y ≤ 9223372036854775807) : arR .mul .i64 x y = x * y := mul_i64 ⟨h1, h2⟩
theorem quo64 {x y : Int} (h1 : -9223372036854775808 ≤ x.tdiv y) (h2 : x.tdiv y ≤ 9223372036854775807) : arR .quo .i64 x y = x.tdiv y := wrap_i64_id ⟨h1, h2⟩
end Go.Proofs.Ytdahfpfkjljojaa.Pu
