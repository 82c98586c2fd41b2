/- ApplyAll agrees with the reference on every string and list of edits that the guard lets in. -/
import Derived.Test.YtnmgcghbfnpofaaQ1
import Derived.Test.YtnmgcghbfnpofaaA12
namespace Go.Proofs.Ytnmgcghbfnpofaa.Pure
open Go.RowKit Go.Proofs.Ytnmgcghbfnpofaa.PAll Go.Proofs.YtnmgcghbfnpofaaW.PrintWords Go.Proofs.Ytnmgcghbfnpofaa.Open Go.Proofs.Ytnmgcghbfnpofaa.Plain
set_option linter.unusedVariables false
theorem refApplyAll_l0 (l : List S31) (hl : l.length ≤ 1000) (d : Nat) : ∀ (k : Nat) (s : ByteArray) (i : Nat), i + d = l.length → d < k → s.size + sz (l.drop i) ≤ 1099511627776 →
    emendateref03_ApplyAll.l0 k s l i = some (res (apAll s (l.drop i))) := by
  induction d with
  | zero =>
    intro k s i hi hk hs
    obtain ⟨k, rfl⟩ : ∃ m, k = m + 1 := ⟨k - 1, by omega⟩
    simp only [emendateref03_ApplyAll.l0]
    rw [if_neg (by omega), List.drop_of_length_le (by omega)]
    rfl
  | succ d ih =>
    intro k s i hi hk hs
    obtain ⟨k, rfl⟩ : ∃ m, k = m + 1 := ⟨k - 1, by omega⟩
    have hlt : i < l.length := by omega
    have hd : l.drop i = l[i] :: l.drop (i + 1) := List.drop_eq_getElem_cons hlt
    rw [hd] at hs ⊢
    simp only [sz] at hs
    simp only [emendateref03_ApplyAll.l0]
    rw [if_pos (by omega), if_pos (by omega), rd_eq hlt, apply_ref _ _ (by omega) (by omega)]
    simp only [Option.bind_some, apAll]
    by_cases hf : fits s.size l[i]
    · rw [if_pos hf, if_pos hf, if_pos rfl, w64 (by omega) (by omega)]
      have := ap_size_le hf
      exact ih k (ap s l[i]) (i + 1) (by omega) (by omega) (by omega)
    · rw [if_neg hf, if_neg hf, if_neg (by simp)]
      rfl
theorem TexteditApplyAllMatchesReference (s : ByteArray) (l : List S31) (hs : s.size ≤ 140737488351232) (ho : ∀ e ∈ l, OkE e) (hy : l.length * 32 ≤ 140737488351232) :
    ∃ k, emendatelaw03_TexteditApplyAllMatchesReference.f k s l = some true := by
  refine ⟨l.length + 20, ?_⟩
  unfold emendatelaw03_TexteditApplyAllMatchesReference.f
  rw [awake_eq _ (by omega), few_eq _ s l ho (by omega)]
  simp only [Option.bind_some, if_true, decide_eq_true_eq]
  by_cases hf : Few s l
  · rw [if_pos hf]
    obtain ⟨h1, h2, h3⟩ := hf
    have hr := refApplyAll_l0 l (by omega) l.length (l.length + 20) s 0 (by omega) (by omega) (by simp; omega)
    simp only [List.drop_zero] at hr
    rw [applyAll_eq _ _ _ (by omega) (by omega) (by omega)]
    unfold emendateref03_ApplyAll.f
    rw [show (0 : Int) = ((0 : Nat) : Int) from rfl, hr]
    simp
  · rw [if_neg hf]
end Go.Proofs.Ytnmgcghbfnpofaa.Pure
