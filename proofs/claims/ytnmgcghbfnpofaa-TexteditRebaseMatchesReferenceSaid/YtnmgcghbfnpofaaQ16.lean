/- Rebase agrees with the reference on every two edits. -/
import Derived.Test.YtnmgcghbfnpofaaQ1
import Derived.Test.YtnmgcghbfnpofaaA16
namespace Go.Proofs.Ytnmgcghbfnpofaa.Pure
open Go.RowKit Go.Proofs.Ytnmgcghbfnpofaa.PAll Go.Proofs.YtnmgcghbfnpofaaW.PrintWords Go.Proofs.Ytnmgcghbfnpofaa.Open Go.Proofs.Ytnmgcghbfnpofaa.Plain
set_option linter.unusedVariables false
theorem small_eq (a b : Int) (s : ByteArray) : emendateref03_small.f a b s = textedit_may.f a b s := rfl
theorem may_some (a b : Int) (s : ByteArray) : textedit_may.f a b s = some (decide (0 ≤ a ∧ 0 ≤ b ∧ a + b ≤ 2147483647)) := by
  unfold textedit_may.f
  by_cases h0 : a ≥ 0
  · rw [if_pos h0]
    by_cases h1 : b ≥ 0
    · rw [if_pos h1]
      by_cases h2 : a ≤ 2147483647
      · rw [if_pos h2, w64 (by omega) (by omega)]
        congr 1
        rw [decide_eq_decide]; omega
      · rw [if_neg h2, decide_eq_false]; omega
    · rw [if_neg h1, decide_eq_false]; omega
  · rw [if_neg h0, decide_eq_false]; omega
theorem rebase_eq (a b : S31) (k : Nat) (ha : OkE a) (hb : OkE b) : emendateref03_Rebase.f (k + 1) a.f0 a.f1 a.f2 b.f0 b.f1 b.f2 = textedit_Rebase.f (k + 1) a.f0 a.f1 a.f2 b.f0 b.f1 b.f2 := by
  unfold emendateref03_Rebase.f textedit_Rebase.f
  simp only [small_eq, may_some, Option.bind_some, decide_eq_true_eq, emendateref03_Rebase.j0, textedit_Rebase.j0]
  by_cases h1 : 0 ≤ a.f0 ∧ 0 ≤ a.f1 ∧ a.f0 + a.f1 ≤ 2147483647
  · rw [if_pos h1, if_pos h1]
    by_cases h2 : 0 ≤ b.f0 ∧ 0 ≤ b.f1 ∧ b.f0 + b.f1 ≤ 2147483647
    · have hz := hb.2.2
      simp only [h2, and_self, decide_true, Bool.not_true, Bool.false_eq_true, if_false]
      rw [w64 (n := (b.f2.size : Int) - b.f1) (by omega) (by omega), w64 (n := a.f0 + (b.f2.size : Int)) (by omega) (by omega), show a.f0 + ((b.f2.size : Int) - b.f1) = a.f0 + b.f2.size - b.f1 from by omega]
    · simp only [decide_eq_false h2, Bool.not_false, if_true]
  · rw [if_neg h1, if_neg h1]
    simp
theorem rebase_some (a b : S31) (k : Nat) : ∃ r, textedit_Rebase.f (k + 1) a.f0 a.f1 a.f2 b.f0 b.f1 b.f2 = some r := by
  unfold textedit_Rebase.f
  simp only [may_some, Option.bind_some, textedit_Rebase.j0]
  repeat' split
  all_goals exact ⟨_, rfl⟩
theorem TexteditRebaseMatchesReference (a b : S31) (ha : OkE a) (hb : OkE b) :
    ∃ k, emendatelaw03_TexteditRebaseMatchesReference.f k a.f0 a.f1 a.f2 b.f0 b.f1 b.f2 = some true := by
  refine ⟨20, ?_⟩
  unfold emendatelaw03_TexteditRebaseMatchesReference.f
  rw [awake_eq 20 (by omega), rebase_eq a b 19 ha hb]
  obtain ⟨r, hr⟩ := rebase_some a b 19
  rw [hr]
  simp
end Go.Proofs.Ytnmgcghbfnpofaa.Pure
