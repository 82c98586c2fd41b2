/- Applying a and then the rebased b gives the same string as applying b and then the rebased a. -/
import Derived.Test.YtnmgcghbfnpofaaQ1
import Derived.Test.YtnmgcghbfnpofaaA17
namespace Go.Proofs.Ytnmgcghbfnpofaa.Pure
open Go.RowKit Go.Proofs.Ytnmgcghbfnpofaa.PAll Go.Proofs.YtnmgcghbfnpofaaW.PrintWords Go.Proofs.Ytnmgcghbfnpofaa.Open Go.Proofs.Ytnmgcghbfnpofaa.Plain
set_option linter.unusedVariables false
theorem may_some17 (a b : Int) (s : ByteArray) : textedit_may.f a b s = some (decide (0 ≤ a ∧ 0 ≤ b ∧ a + b ≤ 2147483647)) := by
  unfold textedit_may.f
  by_cases h0 : a ≥ 0
  · rw [if_pos h0]
    by_cases h1 : b ≥ 0
    · rw [if_pos h1]
      by_cases h2 : a ≤ 2147483647
      · rw [if_pos h2, w64 (by omega) (by omega)]
        congr 1
        rw [decide_eq_decide]; omega
      · rw [if_neg h2, decide_eq_false]; omega
    · rw [if_neg h1, decide_eq_false]; omega
  · rw [if_neg h0, decide_eq_false]; omega
/-- Rebase of two edits that fit a small text. -/
theorem rebase_fits {n : Nat} {a b : S31} (ha : fits n a) (hb : fits n b) (hn : n ≤ 300) (hz : b.f2.size ≤ 400) (k : Nat) :
    textedit_Rebase.f (k + 1) a.f0 a.f1 a.f2 b.f0 b.f1 b.f2 =
      some (if b.f0 + b.f1 ≤ a.f0 then (a.f0 + (b.f2.size - b.f1), a.f1, a.f2, true) else if a.f0 + a.f1 ≤ b.f0 then (a.f0, a.f1, a.f2, true) else (0, 0, ⟨#[]⟩, false)) := by
  unfold fits at ha hb
  unfold textedit_Rebase.f
  rw [may_some17, may_some17, decide_eq_true (by omega), decide_eq_true (by omega)]
  simp only [Option.bind_some, if_true, textedit_Rebase.j0, Bool.not_true, Bool.false_eq_true, if_false]
  rw [w64 (n := b.f0 + b.f1) (by omega) (by omega), w64 (n := a.f0 + a.f1) (by omega) (by omega), w64 (n := (b.f2.size : Int) - b.f1) (by omega) (by omega), w64 (n := a.f0 + ((b.f2.size : Int) - b.f1)) (by omega) (by omega)]
  by_cases h1 : b.f0 + b.f1 ≤ a.f0
  · rw [if_pos h1, if_pos h1]
  · rw [if_neg h1, if_neg h1]
    by_cases h2 : a.f0 + a.f1 ≤ b.f0
    · rw [if_pos h2, if_pos h2]
    · rw [if_neg h2, if_neg h2]
/-- b lies before a: b and then the shifted a, or a and then b: one text. -/
theorem commute {s : ByteArray} {a b : S31} (ha : fits s.size a) (hb : fits s.size b) (hab : b.f0 + b.f1 ≤ a.f0) :
    ∃ t, apAll s [a, b] = some t ∧ apAll s [b, ⟨a.f0 + (b.f2.size - b.f1), a.f1, a.f2⟩] = some t := by
  have za := ap_size ha
  have zb := ap_size hb
  unfold fits at ha hb
  obtain ⟨a0, a1, a2⟩ := ha
  obtain ⟨b0, b1, b2⟩ := hb
  have hb' : fits (ap s a).size b := by unfold fits; omega
  have ha' : fits (ap s b).size ⟨a.f0 + (b.f2.size - b.f1), a.f1, a.f2⟩ := by unfold fits; dsimp only; omega
  refine ⟨ap (ap s a) b, ?_, ?_⟩
  · simp only [apAll]
    rw [if_pos (by unfold fits; omega), if_pos hb']
  · simp only [apAll]
    rw [if_pos (by unfold fits; omega), if_pos ha']
    congr 1
    apply L_inj
    have hl := L_length s
    rw [L_ap, L_ap, L_ap, L_ap]
    simp only
    have hta : ((L s).take a.f0.toNat).length = a.f0.toNat := by rw [List.length_take]; omega
    have htb : ((L s).take b.f0.toNat).length = b.f0.toNat := by rw [List.length_take]; omega
    have hmid : (List.take b.f0.toNat (L s) ++ L b.f2).length = b.f0.toNat + b.f2.size := by rw [List.length_append, htb, L_length]
    -- the shifted edit's start
    have e1 : (a.f0 + ((b.f2.size : Int) - b.f1)).toNat = (List.take b.f0.toNat (L s) ++ L b.f2).length + (a.f0 - (b.f0 + b.f1)).toNat := by rw [hmid]; omega
    have e2 : (a.f0 + ((b.f2.size : Int) - b.f1) + a.f1).toNat = (List.take b.f0.toNat (L s) ++ L b.f2).length + (a.f0 + a.f1 - (b.f0 + b.f1)).toNat := by rw [hmid]; omega
    rw [e1, e2, List.take_length_add_append, List.drop_length_add_append, List.drop_drop, show (b.f0 + b.f1).toNat + (a.f0 + a.f1 - (b.f0 + b.f1)).toNat = (a.f0 + a.f1).toNat from by omega]
    have e3 : List.take b.f0.toNat (List.take a.f0.toNat (L s) ++ L a.f2 ++ List.drop (a.f0 + a.f1).toNat (L s)) = List.take b.f0.toNat (L s) := by
      rw [List.append_assoc, List.take_append_of_le_length (by omega), List.take_take, Nat.min_eq_left (by omega)]
    have e4 : List.drop (b.f0 + b.f1).toNat (List.take a.f0.toNat (L s) ++ L a.f2 ++ List.drop (a.f0 + a.f1).toNat (L s)) = List.drop (b.f0 + b.f1).toNat (List.take a.f0.toNat (L s)) ++ L a.f2 ++ List.drop (a.f0 + a.f1).toNat (L s) := by
      rw [List.append_assoc, List.drop_append_of_le_length (by omega), List.append_assoc]
    rw [e3, e4, List.drop_take, show a.f0.toNat - (b.f0 + b.f1).toNat = (a.f0 - (b.f0 + b.f1)).toNat from by omega]
    simp only [List.append_assoc]
theorem TexteditRebaseCommutes (s : ByteArray) (a b : S31) (hs : s.size ≤ 140737488351232) (ha : OkE a) (hb : OkE b) :
    ∃ k, emendatelaw03_TexteditRebaseCommutes.f k s a.f0 a.f1 a.f2 b.f0 b.f1 b.f2 = some true := by
  refine ⟨20, ?_⟩
  have hfew := few_eq 20 s [⟨a.f0, a.f1, a.f2⟩, ⟨b.f0, b.f1, b.f2⟩] (by simp only [List.mem_cons, List.not_mem_nil, or_false, forall_eq_or_imp, forall_eq]; exact ⟨ha, hb⟩) (by simp)
  unfold emendatelaw03_TexteditRebaseCommutes.f
  rw [awake_eq 20 (by omega), hfew]
  simp only [Option.bind_some, if_true, decide_eq_true_eq]
  by_cases hf : Few s [⟨a.f0, a.f1, a.f2⟩, ⟨b.f0, b.f1, b.f2⟩]
  · rw [if_pos hf]
    obtain ⟨h1, _, h2⟩ := hf
    simp only [sz] at h2
    rw [fits_ref _ (by omega)]
    simp only [Option.bind_some, decide_eq_true_eq]
    by_cases hfa : fits s.size a
    · rw [if_pos hfa, fits_ref _ (by omega)]
      simp only [Option.bind_some, emendatelaw03_TexteditRebaseCommutes.j0]
      by_cases hfb : fits s.size b
      · simp only [decide_eq_true hfb, Bool.not_true, Bool.false_eq_true, if_false]
        rw [rebase_fits hfa hfb h1 (by omega), rebase_fits hfb hfa h1 (by omega)]
        simp only [Option.bind_some]
        have fa := hfa
        have fb := hfb
        unfold fits at fa fb
        have run : ∀ (l : List S31) (t : ByteArray), apAll s l = some t → l.length ≤ 2 → sz l ≤ 400 → textedit_ApplyAll.f 18 s l = some (t, 0) := by
          intro l t h hl hz
          rw [applyAll_eq _ _ _ (by omega) (by omega) (by omega), h]; rfl
        by_cases c1 : b.f0 + b.f1 ≤ a.f0
        · by_cases c2 : a.f0 + a.f1 ≤ b.f0
          · -- both are insertions at one place
            have z1 : a.f1 = 0 := by omega
            have z2 : b.f1 = 0 := by omega
            have z3 : (a.f0 == b.f0) = true := beq_iff_eq.2 (by omega)
            simp only [if_pos c1, if_pos c2, bne_self_eq_false, Bool.false_eq_true, if_false, if_true]
            rw [if_pos z1, if_pos z2, z3]
            simp only [emendatelaw03_TexteditRebaseCommutes.j1, if_true]
          · obtain ⟨t, t1, t2⟩ := commute hfa hfb c1
            have r1 := run _ t t1 (by simp) (by simp only [sz]; omega)
            have r2 := run _ t t2 (by simp) (by simp only [sz]; omega)
            have r1' : textedit_ApplyAll.f 18 s [⟨a.f0, a.f1, a.f2⟩, ⟨b.f0, b.f1, b.f2⟩] = some (t, 0) := r1
            have r2' : textedit_ApplyAll.f 18 s [⟨b.f0, b.f1, b.f2⟩, ⟨a.f0 + (b.f2.size - b.f1), a.f1, a.f2⟩] = some (t, 0) := r2
            have z3 : a.f1 = 0 → b.f1 = 0 → (a.f0 == b.f0) = false := fun x y => beq_eq_false_iff_ne.2 (by omega)
            simp only [if_pos c1, if_neg c2, bne_self_eq_false, Bool.false_eq_true, if_false, if_true]
            by_cases y1 : a.f1 = 0
            · by_cases y2 : b.f1 = 0
              · simp only [if_pos y1, if_pos y2, z3 y1 y2, emendatelaw03_TexteditRebaseCommutes.j1, Bool.false_eq_true, if_false, r1', r2', Option.bind_some]
                simp
              · simp only [if_pos y1, if_neg y2, emendatelaw03_TexteditRebaseCommutes.j1, Bool.false_eq_true, if_false, r1', r2', Option.bind_some]
                simp
            · simp only [if_neg y1, emendatelaw03_TexteditRebaseCommutes.j1, Bool.false_eq_true, if_false, r1', r2', Option.bind_some]
              simp
        · by_cases c2 : a.f0 + a.f1 ≤ b.f0
          · obtain ⟨t, t1, t2⟩ := commute hfb hfa c2
            have r1 := run _ t t1 (by simp) (by simp only [sz]; omega)
            have r2 := run _ t t2 (by simp) (by simp only [sz]; omega)
            have r1' : textedit_ApplyAll.f 18 s [⟨b.f0, b.f1, b.f2⟩, ⟨a.f0, a.f1, a.f2⟩] = some (t, 0) := r1
            have r2' : textedit_ApplyAll.f 18 s [⟨a.f0, a.f1, a.f2⟩, ⟨b.f0 + (a.f2.size - a.f1), b.f1, b.f2⟩] = some (t, 0) := r2
            have z3 : a.f1 = 0 → b.f1 = 0 → (a.f0 == b.f0) = false := fun x y => beq_eq_false_iff_ne.2 (by omega)
            simp only [if_neg c1, if_pos c2, bne_self_eq_false, Bool.false_eq_true, if_false, if_true]
            by_cases y1 : a.f1 = 0
            · by_cases y2 : b.f1 = 0
              · simp only [if_pos y1, if_pos y2, z3 y1 y2, emendatelaw03_TexteditRebaseCommutes.j1, Bool.false_eq_true, if_false, r1', r2', Option.bind_some]
                simp
              · simp only [if_pos y1, if_neg y2, emendatelaw03_TexteditRebaseCommutes.j1, Bool.false_eq_true, if_false, r1', r2', Option.bind_some]
                simp
            · simp only [if_neg y1, emendatelaw03_TexteditRebaseCommutes.j1, Bool.false_eq_true, if_false, r1', r2', Option.bind_some]
              simp
          · simp only [if_neg c1, if_neg c2, bne_self_eq_false, Bool.false_eq_true, if_false, emendatelaw03_TexteditRebaseCommutes.j1, if_true]
      · simp [hfb]
    · rw [if_neg hfa]
      simp [emendatelaw03_TexteditRebaseCommutes.j0]
  · rw [if_neg hf]
    simp [emendatelaw03_TexteditRebaseCommutes.j0]
end Go.Proofs.Ytnmgcghbfnpofaa.Pure
