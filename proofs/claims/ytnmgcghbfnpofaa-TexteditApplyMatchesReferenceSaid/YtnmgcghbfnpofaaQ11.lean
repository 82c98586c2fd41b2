/- Apply agrees with the reference on every string and edit that the guard lets in. -/
import Derived.Test.YtnmgcghbfnpofaaQ1
import Derived.Test.YtnmgcghbfnpofaaA11
namespace Go.Proofs.Ytnmgcghbfnpofaa.Pure
open Go.RowKit Go.Proofs.Ytnmgcghbfnpofaa.PAll Go.Proofs.YtnmgcghbfnpofaaW.PrintWords Go.Proofs.Ytnmgcghbfnpofaa.Open Go.Proofs.Ytnmgcghbfnpofaa.Plain
set_option linter.unusedVariables false
theorem TexteditApplyMatchesReference (s : ByteArray) (e : S31) (hs : s.size ≤ 140737488351232) (he : OkE e) :
    ∃ k, emendatelaw03_TexteditApplyMatchesReference.f k s e.f0 e.f1 e.f2 = some true := by
  refine ⟨20, ?_⟩
  have hfew := few_eq 20 s [⟨e.f0, e.f1, e.f2⟩] (by simpa using he) (by simp)
  unfold emendatelaw03_TexteditApplyMatchesReference.f
  rw [awake_eq 20 (by omega), hfew]
  simp only [Option.bind_some, if_true, decide_eq_true_eq]
  by_cases hf : Few s [⟨e.f0, e.f1, e.f2⟩]
  · rw [if_pos hf]
    obtain ⟨h1, _, h2⟩ := hf
    simp only [sz] at h2
    rw [apply_eq _ _ (by omega) (by omega), apply_ref _ _ (by omega) (by omega)]
    simp
  · rw [if_neg hf]
end Go.Proofs.Ytnmgcghbfnpofaa.Pure
