/-
  The program's WeightedCount returns what the reference's WeightedCount returns, for every argument.
  Conditions: none (outside 1 to 4 both return 0; inside both are reckoned by the kernel over the functions' Lean twins).
-/
import Derived.Test.YthfoekhecaahfaaPFnExactWeightedCountx18
namespace Go.Proofs.Ythfoekhecaahfaa.Pure
open Go.RowKit Go.Proofs.Ythfoekhecaahfaa.PFnExactWeightedCount Go.Proofs.YthfoekhecaahfaaW.PrintWords Go.Proofs.YthfoekhecaahfaaW.PrintLast

theorem at1 : laws_FnExactWeightedCount.f 2000 1 = some true := by decide +kernel
theorem at2 : laws_FnExactWeightedCount.f 2000 2 = some true := by decide +kernel
theorem at3 : laws_FnExactWeightedCount.f 2000 3 = some true := by decide +kernel
theorem at4 : laws_FnExactWeightedCount.f 2000 4 = some true := by decide +kernel

theorem outside (a : Int) (h : ¬ (1 ≤ a ∧ a ≤ 4)) : laws_FnExactWeightedCount.f 2000 a = some true := by
  have e1 : spec_l01In.f a 1 4 = some false := by
    unfold spec_l01In.f
    by_cases h1 : a ≥ 1
    · rw [if_pos h1]
      congr 1
      exact decide_eq_false (fun h2 => h ⟨h1, h2⟩)
    · rw [if_neg h1]
  have e2 : wval a = false := by
    unfold wval
    by_cases h1 : 1 ≤ a
    · have h2 : ¬ a ≤ 4 := fun h2 => h ⟨h1, h2⟩
      simp [h2]
    · simp [h1]
  have e3 : spec_WeightedCount.f 2000 a = some 0 := by
    unfold spec_WeightedCount.f spec_ListAlternating.f
    rw [e1]
    rfl
  have e4 : impl_WeightedCount.f 2000 a = some 0 := by
    unfold impl_WeightedCount.f impl_ListAlternating.f
    rw [e2]
    rfl
  unfold laws_FnExactWeightedCount.f
  rw [e3, e4]
  rfl

theorem FnExactWeightedCount : laws_FnExactWeightedCount.Pure := by
  intro a _
  refine ⟨2000, ?_⟩
  by_cases h : 1 ≤ a ∧ a ≤ 4
  · obtain rfl | rfl | rfl | rfl : a = 1 ∨ a = 2 ∨ a = 3 ∨ a = 4 := by omega
    · exact at1
    · exact at2
    · exact at3
    · exact at4
  · exact outside a h

end Go.Proofs.Ythfoekhecaahfaa.Pure
