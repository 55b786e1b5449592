/- Long answers as the reference's Long, at every two numbers. -/
import Derived.Test.YthpijfnhlehnkaaPFnExactLongx1
import Derived.Test.YthpijfnhlehnkaaKit
import Derived.Test.YthpijfnhlehnkaaGf
namespace Go.Proofs.Ythpijfnhlehnkaa.Pure
open Go.RowKit Go.Proofs.Ythpijfnhlehnkaa Go.Proofs.Ythpijfnhlehnkaa.PFnExactLong Go.Proofs.YthpijfnhlehnkaaW.PrintWords Go.Proofs.YthpijfnhlehnkaaW.PrintLast Go.Proofs.YthpijfnhlehnkaaW.PrintMore Go.Proofs.Ythpijfnhlehnkaa.K
set_option linter.unusedVariables false

theorem long_same (a b : Int) : ∃ r, spec_Long.f a b = some r ∧ impl_Long.f a b = some r := by
  unfold impl_Long.f spec_Long.f impl_in.f spec_l1In.f
  by_cases h1 : a ≥ 1
  · by_cases h2 : a ≤ 8
    · by_cases h3 : b ≥ 0
      · by_cases h4 : b ≤ 120
        · refine ⟨mx (wrap64 (Int.tdiv (wrap64 ((wrap64 (b + a)) - 1)) a)) 1, ?_, ?_⟩
          · simp only [h1, h2, h3, h4, if_true, decide_true, Option.bind_some]
            rw [if_neg (by omega)]
            unfold spec_l1Max.f mx
            by_cases h5 : (wrap64 (Int.tdiv (wrap64 ((wrap64 (b + a)) - 1)) a)) < 1
            · rw [if_pos (by omega), if_pos h5]; rfl
            · rw [if_neg h5]
              by_cases h6 : 1 > (wrap64 (Int.tdiv (wrap64 ((wrap64 (b + a)) - 1)) a))
              · omega
              · rw [if_neg h6]; rfl
          · simp only [h1, h2, h3, h4, if_true, decide_true, Option.bind_some]
            rw [if_neg (by omega)]
        · exact ⟨-1, by simp [h1, h2, h3, h4], by simp [h1, h2, h3, h4]⟩
      · exact ⟨-1, by simp [h1, h2, h3], by simp [h1, h2, h3]⟩
    · exact ⟨-1, by simp [h1, h2], by simp [h1, h2]⟩
  · exact ⟨-1, by simp [h1], by simp [h1]⟩
theorem FnExactLong : laws_FnExactLong.Pure := by
  intro a b _ _
  obtain ⟨r, h1, h2⟩ := long_same a b
  unfold laws_FnExactLong.f
  rw [h1, h2]
  simp

end Go.Proofs.Ythpijfnhlehnkaa.Pure
