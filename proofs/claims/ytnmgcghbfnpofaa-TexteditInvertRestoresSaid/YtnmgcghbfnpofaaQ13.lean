/- An edit followed by its inverse restores the string. -/
import Derived.Test.YtnmgcghbfnpofaaQ1
import Derived.Test.YtnmgcghbfnpofaaA13
namespace Go.Proofs.Ytnmgcghbfnpofaa.Pure
open Go.RowKit Go.Proofs.Ytnmgcghbfnpofaa.PAll Go.Proofs.YtnmgcghbfnpofaaW.PrintWords Go.Proofs.Ytnmgcghbfnpofaa.Open Go.Proofs.Ytnmgcghbfnpofaa.Plain
set_option linter.unusedVariables false
theorem TexteditInvertRestores (s : ByteArray) (e : S31) (hs : s.size ≤ 140737488351232) (he : OkE e) :
    ∃ k, emendatelaw03_TexteditInvertRestores.f k s e.f0 e.f1 e.f2 = some true := by
  refine ⟨20, ?_⟩
  have hfew := few_eq 20 s [⟨e.f0, e.f1, e.f2⟩] (by simpa using he) (by simp)
  unfold emendatelaw03_TexteditInvertRestores.f
  rw [awake_eq 20 (by omega), hfew]
  simp only [Option.bind_some, if_true, decide_eq_true_eq]
  by_cases hf : Few s [⟨e.f0, e.f1, e.f2⟩]
  · rw [if_pos hf]
    obtain ⟨h1, _, h2⟩ := hf
    simp only [sz] at h2
    rw [apply_eq _ _ (by omega) (by omega), invert_eq _ _ (by omega)]
    by_cases hfit : fits s.size e
    · have hz := ap_size_le hfit
      have hi := inv_size hfit
      have hfit' := hfit
      unfold fits at hfit'
      simp only [if_pos hfit, Option.bind_some, if_true]
      rw [apply_eq _ _ (by omega) (by omega), invert_eq _ _ (by omega)]
      simp only [if_pos (inv_fits hfit), Option.bind_some, if_true, ap_inv hfit, inv_inv hfit]
      simp
    · simp [if_neg hfit]
  · rw [if_neg hf]
end Go.Proofs.Ytnmgcghbfnpofaa.Pure
