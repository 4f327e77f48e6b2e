/- More plain lemmas. -/
import Derived.Test.YtaachifkgcdeoaaPure0
open Go Go.Proofs.Ytaachifkgcdeoaa.Sy
set_option linter.unusedVariables false
namespace Go.Proofs.Ytaachifkgcdeoaa.Pu
theorem tmod_rest' (a n : Int) (hn : 0 < n) : (a.tmod n + n).tmod n = a % n := by
  have h1 := Int.tmod_lt_of_pos a hn
  have h2 : -n < a.tmod n := Int.lt_tmod_of_pos a hn
  rw [Int.tmod_eq_emod_of_nonneg (by omega), Int.add_emod_right]
  rw [Int.tmod_def]
  rw [Int.sub_emod, Int.mul_emod_right]
  simp
theorem bool_dich (b : Bool) : b = true ∨ b = false := by cases b <;> simp
theorem mxI_le {x y z : Int} (h1 : x ≤ z) (h2 : y ≤ z) : mxI x y ≤ z := by have := mxI_cases x y; omega
theorem mul64 {x y : Int} (h1 : -9223372036854775808 ≤ x * y) (h2 : x * y ≤ 9223372036854775807) : arR .mul .i64 x y = x * y := mul_i64 ⟨h1, h2⟩
theorem quo64 {x y : Int} (h1 : -9223372036854775808 ≤ x.tdiv y) (h2 : x.tdiv y ≤ 9223372036854775807) : arR .quo .i64 x y = x.tdiv y := wrap_i64_id ⟨h1, h2⟩
theorem sumBy_len {α : Type} {f : α → Nat} (hf : ∀ x, 1 ≤ f x) : ∀ l : List α, l.length ≤ sumBy f l
  | [] => Nat.zero_le _
  | x :: xs => by
    have := sumBy_len hf xs
    have := hf x
    simp only [List.length_cons, sumBy]
    omega
theorem bulk_pos : ∀ (t : PT) (x : t.den), 1 ≤ bulk t x
  | .int _, _ => Nat.le_refl _
  | .bool, _ => Nat.le_refl _
  | .str, s => by simp only [bulk]; omega
  | .list t, xs => by simp only [bulk]; omega
  | .arr _ t, xs => by simp only [bulk]; omega
  | .st ts, x => by simp only [bulk]; omega
  | .box t, x => by simp only [bulk]; omega
/-- A list that is not too bulky is not too long. -/
theorem bulk_len {t : PT} {l : List t.den} : l.length < bulk (.list t) l := by
  have := sumBy_len (bulk_pos t) l
  simp only [bulk]
  omega
end Go.Proofs.Ytaachifkgcdeoaa.Pu
