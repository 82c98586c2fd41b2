/- The composed edit has the effect of the whole list. -/
import Derived.Test.YtnmgcghbfnpofaaQ36
import Derived.Test.YtnmgcghbfnpofaaA14
namespace Go.Proofs.Ytnmgcghbfnpofaa.Pure
open Go.RowKit Go.Proofs.Ytnmgcghbfnpofaa.PAll Go.Proofs.YtnmgcghbfnpofaaW.PrintWords Go.Proofs.Ytnmgcghbfnpofaa.Open Go.Proofs.Ytnmgcghbfnpofaa.Plain
set_option linter.unusedVariables false
theorem TexteditComposeEquivalent (s : ByteArray) (l : List S31) (hs : s.size ≤ 140737488351232) (ho : ∀ e ∈ l, OkE e) (hy : l.length * 32 ≤ 140737488351232) :
    ∃ k, emendatelaw03_TexteditComposeEquivalent.f k s l = some true := by
  refine ⟨l.length + 20, ?_⟩
  unfold emendatelaw03_TexteditComposeEquivalent.f
  rw [awake_eq _ (by omega), few_eq _ s l ho (by omega)]
  simp only [Option.bind_some, if_true, decide_eq_true_eq]
  by_cases hf : Few s l
  · rw [if_pos hf]
    obtain ⟨h1, h2, h3⟩ := hf
    rw [applyAll_eq _ _ _ (by omega) (by omega) (by omega), compose_eq _ _ _ (by omega) (by omega) (by omega)]
    simp only [Option.bind_some]
    cases l with
    | nil =>
      have h0 : fits s.size ⟨0, 0, ⟨#[]⟩⟩ := by unfold fits; dsimp only; omega
      have e0 : ap s ⟨0, 0, ⟨#[]⟩⟩ = s := by
        apply L_inj
        rw [L_ap]
        simp
      have := apply_eq s ⟨0, 0, ⟨#[]⟩⟩ (by omega) (show 0 ≤ _ by omega)
      simp only at this
      simp only [apAll, res, comp, if_true, this, if_pos h0, e0, Option.bind_some]
      simp
    | cons e r =>
      cases ha : apAll s (e :: r) with
      | none => simp [comp, ha, res]
      | some t =>
        have H := comp_hull ha
        have hc : comp s (e :: r) = fin t ((e :: r).foldl hstep ⟨e.f0, e.f0, e.f0⟩) := by simp only [comp, ha]
        rw [hc]
        have hsz := apAll_size ha
        have hq : (fin t ((e :: r).foldl hstep ⟨e.f0, e.f0, e.f0⟩)).2.2.1.size ≤ t.size := by
          have q := H.h4
          have q2 := H.h2
          have q0 := H.h0
          simp only [fin]
          rw [size_extract _ _ _ (by omega)]
          omega
        have := apply_eq s ⟨(fin t ((e :: r).foldl hstep ⟨e.f0, e.f0, e.f0⟩)).1, (fin t ((e :: r).foldl hstep ⟨e.f0, e.f0, e.f0⟩)).2.1, (fin t ((e :: r).foldl hstep ⟨e.f0, e.f0, e.f0⟩)).2.2.1⟩ (by omega) (by dsimp only; omega)
        rw [if_pos (fin_fits H), fin_ap H] at this
        simp only [res, if_true]
        rw [this]
        simp [fin]
  · rw [if_neg hf]
end Go.Proofs.Ytnmgcghbfnpofaa.Pure
