/- An edit equals the deletion of its range followed by the insertion of its text. -/
import Derived.Test.YtnmgcghbfnpofaaQ36
import Derived.Test.YtnmgcghbfnpofaaA6
namespace Go.Proofs.Ytnmgcghbfnpofaa.Pure
open Go.RowKit Go.Proofs.Ytnmgcghbfnpofaa.PAll Go.Proofs.YtnmgcghbfnpofaaW.PrintWords Go.Proofs.Ytnmgcghbfnpofaa.Open Go.Proofs.Ytnmgcghbfnpofaa.Plain
set_option linter.unusedVariables false
theorem split_ap {s : ByteArray} {e : S31} (h : fits s.size e) : apAll s [⟨e.f0, e.f1, ⟨#[]⟩⟩, ⟨e.f0, 0, e.f2⟩] = some (ap s e) := by
  have h1 : fits s.size ⟨e.f0, e.f1, ⟨#[]⟩⟩ := h
  have hz := ap_size h1
  have h0 : ((⟨#[]⟩ : ByteArray).size) = 0 := rfl
  unfold fits at h
  have h2 : fits (ap s ⟨e.f0, e.f1, ⟨#[]⟩⟩).size ⟨e.f0, 0, e.f2⟩ := by
    unfold fits; dsimp only at hz ⊢; omega
  simp only [apAll, if_pos h1, if_pos h2]
  congr 1
  apply L_inj
  have hl := L_length s
  have hta : ((L s).take e.f0.toNat).length = e.f0.toNat := by rw [List.length_take]; omega
  rw [L_ap, L_ap, L_ap]
  simp only [L_empty, List.append_nil, Int.add_zero]
  rw [List.take_append_of_le_length (by omega), List.take_take, Nat.min_self]
  congr 1
  conv => lhs; arg 1; rw [← hta]
  rw [List.drop_left]
theorem split_comp {s : ByteArray} {e : S31} (h : fits s.size e) : comp s [⟨e.f0, e.f1, ⟨#[]⟩⟩, ⟨e.f0, 0, e.f2⟩] = (e.f0, e.f1, e.f2, 0) := by
  simp only [comp, split_ap h]
  have h' := h
  unfold fits at h'
  have hl := L_length s
  have hta : ((L s).take e.f0.toNat).length = e.f0.toNat := by rw [List.length_take]; omega
  have h0 : ((⟨#[]⟩ : ByteArray).size) = 0 := rfl
  have e1 : ([⟨e.f0, e.f1, ⟨#[]⟩⟩, ⟨e.f0, 0, e.f2⟩] : List S31).foldl hstep ⟨e.f0, e.f0, e.f0⟩ = ⟨e.f0, e.f0 + e.f1, e.f0 + e.f2.size⟩ := by
    simp only [List.foldl_cons, List.foldl_nil]
    have q : hstep ⟨e.f0, e.f0, e.f0⟩ ⟨e.f0, e.f1, ⟨#[]⟩⟩ = ⟨e.f0, e.f0 + e.f1, e.f0⟩ := by
      unfold hstep
      simp only [Int.lt_irrefl, if_false, h0, Hul.mk.injEq, true_and]
      by_cases c : e.f0 + e.f1 - e.f0 > 0
      · rw [if_pos c, if_pos c]; omega
      · rw [if_neg c, if_neg c]; omega
    rw [q]
    unfold hstep
    simp only [Int.lt_irrefl, if_false, Hul.mk.injEq, true_and]
    rw [if_neg (by omega), if_neg (by omega)]; omega
  rw [e1]
  simp only [fin, Prod.mk.injEq, true_and, and_true]
  refine ⟨by omega, ?_⟩
  apply L_inj
  rw [L_extract, L_ap]
  have : (e.f0 + (e.f2.size : Int)).toNat = (List.take e.f0.toNat (L s) ++ L e.f2).length := by
    rw [List.length_append, hta, L_length]; omega
  rw [this, List.take_left]
  conv => lhs; arg 1; rw [← hta]
  rw [List.drop_left]
theorem TexteditSplit (s : ByteArray) (e : S31) (hs : s.size ≤ 140737488351232) (he : OkE e) :
    ∃ k, emendatelaw03_TexteditSplit.f k s e.f0 e.f1 e.f2 = some true := by
  refine ⟨20, ?_⟩
  have hfew := few_eq 20 s [⟨e.f0, e.f1, e.f2⟩] (by simpa using he) (by simp)
  unfold emendatelaw03_TexteditSplit.f
  rw [awake_eq 20 (by omega), hfew]
  simp only [Option.bind_some, if_true, decide_eq_true_eq]
  by_cases hf : Few s [⟨e.f0, e.f1, e.f2⟩]
  · rw [if_pos hf]
    obtain ⟨h1, _, h2⟩ := hf
    simp only [sz] at h2
    rw [fits_ref _ (by omega)]
    simp only [Option.bind_some, emendatelaw03_TexteditSplit.j0]
    by_cases hfit : fits s.size e
    · have h0 : ((⟨#[]⟩ : ByteArray).size) = 0 := rfl
      simp only [decide_eq_true hfit, Bool.not_true, Bool.false_eq_true, if_false]
      rw [apply_eq _ _ (by omega) (by omega), applyAll_eq _ _ _ (by simp) (by simp) (by simp only [sz]; omega), compose_eq _ _ _ (by simp) (by simp) (by simp only [sz]; omega), split_comp hfit, split_ap hfit, if_pos hfit]
      simp [res]
    · simp [hfit]
  · rw [if_neg hf]
    simp [emendatelaw03_TexteditSplit.j0]
end Go.Proofs.Ytnmgcghbfnpofaa.Pure
