/- What the functions on edits come to, in plain words: whether an edit fits, the text after it, its inverse; lists of edits. -/
import Derived.Test.YtnmgcghbfnpofaaA34
import Derived.Test.YtnmgcghbfnpofaaA41
import Derived.Test.YtnmgcghbfnpofaaA27
import Derived.Test.YtnmgcghbfnpofaaA56
namespace Go.Proofs.Ytnmgcghbfnpofaa.Plain
open Go.RowKit Go.Proofs.Ytnmgcghbfnpofaa.PAll Go.Proofs.YtnmgcghbfnpofaaW.PrintWords
set_option linter.unusedVariables false

/-! #### bytes as lists -/
abbrev L (b : ByteArray) : List UInt8 := b.data.toList
theorem L_inj {a b : ByteArray} (h : L a = L b) : a = b := by
  cases a; cases b
  simp only [L, Array.toList_inj] at h
  rw [h]
theorem L_append (a b : ByteArray) : L (a ++ b) = L a ++ L b := by
  simp [L, ByteArray.data_append]
theorem L_extract (a : ByteArray) (i j : Nat) : L (a.extract i j) = ((L a).take j).drop i := by
  simp only [L, ByteArray.data_extract, Array.toList_extract, List.extract_eq_take_drop]
  rw [List.drop_take]
theorem L_length (a : ByteArray) : (L a).length = a.size := by
  rw [Array.length_toList]; rfl
theorem L_empty : L ⟨#[]⟩ = [] := rfl
theorem size_extract (s : ByteArray) (i j : Nat) (h : j ≤ s.size) : (s.extract i j).size = j - i := by
  rw [← L_length, L_extract, List.length_drop, List.length_take, L_length]
  omega
theorem size_append (a b : ByteArray) : (a ++ b).size = a.size + b.size := by
  rw [← L_length, L_append, List.length_append, L_length, L_length]

theorem w64 {n : Int} (h0 : -9223372036854775808 ≤ n) (h1 : n ≤ 9223372036854775807) : wrap64 n = n := by
  unfold wrap64; omega

/-! #### one edit -/
def fits (n : Nat) (e : S31) : Prop := 0 ≤ e.f0 ∧ 0 ≤ e.f1 ∧ e.f0 + e.f1 ≤ n
instance (n : Nat) (e : S31) : Decidable (fits n e) := by unfold fits; infer_instance
def ap (s : ByteArray) (e : S31) : ByteArray := (s.extract 0 e.f0.toNat ++ e.f2) ++ s.extract (e.f0 + e.f1).toNat s.size
def inv (s : ByteArray) (e : S31) : S31 := ⟨e.f0, e.f2.size, s.extract e.f0.toNat (e.f0 + e.f1).toNat⟩

theorem fits_eq (n : Nat) (hn : n ≤ 1099511627776) (e : S31) : textedit_fits.f n e.f0 e.f1 e.f2 = some (decide (fits n e)) := by
  unfold textedit_fits.f
  by_cases h0 : e.f0 ≥ 0
  · rw [if_pos h0]
    by_cases h1 : e.f1 ≥ 0
    · rw [if_pos h1]
      by_cases h2 : e.f0 ≤ n
      · rw [if_pos h2, w64 (by omega) (by omega)]
        congr 1
        rw [decide_eq_decide]
        unfold fits; omega
      · rw [if_neg h2, decide_eq_false]
        unfold fits; omega
    · rw [if_neg h1, decide_eq_false]
      unfold fits; omega
  · rw [if_neg h0, decide_eq_false]
    unfold fits; omega
theorem fits_ref (s : ByteArray) (hn : s.size ≤ 1099511627776) (e : S31) : emendateref03_Fits.f s e.f0 e.f1 e.f2 = some (decide (fits s.size e)) := by
  unfold emendateref03_Fits.f
  by_cases h0 : e.f0 ≥ 0
  · rw [if_pos h0]
    by_cases h2 : e.f0 ≤ s.size
    · rw [if_pos h2]
      by_cases h1 : e.f1 ≥ 0
      · rw [if_pos h1, w64 (by omega) (by omega)]
        congr 1
        rw [decide_eq_decide]
        unfold fits; omega
      · rw [if_neg h1, decide_eq_false]
        unfold fits; omega
    · rw [if_neg h2, decide_eq_false]
      unfold fits; omega
  · rw [if_neg h0, decide_eq_false]
    unfold fits; omega

theorem apply_eq (s : ByteArray) (e : S31) (hs : s.size ≤ 1099511627776) (he : e.f2.size ≤ 1099511627776) :
    textedit_Apply.f s e.f0 e.f1 e.f2 = some (if fits s.size e then (ap s e, 0) else (⟨#[]⟩, 2)) := by
  unfold textedit_Apply.f
  rw [fits_eq _ hs]
  simp only [Option.bind_some, decide_eq_true_eq]
  by_cases h : fits s.size e
  · have h' := h
    unfold fits at h'
    obtain ⟨a, b, c⟩ := h'
    have x1 := size_extract s 0 e.f0.toNat (by omega)
    have x2 := size_extract s (e.f0 + e.f1).toNat s.size (Nat.le_refl _)
    have x3 := size_append (s.extract 0 e.f0.toNat) e.f2
    rw [if_pos h, if_pos h, if_pos a, if_pos (by omega), if_pos (by omega), w64 (by omega) (by omega), if_pos (by omega), if_pos (by omega), if_pos (by omega)]
    rfl
  · rw [if_neg h, if_neg h]
theorem apply_ref (s : ByteArray) (e : S31) (hs : s.size ≤ 1099511627776) (he : e.f2.size ≤ 1099511627776) :
    emendateref03_Apply.f s e.f0 e.f1 e.f2 = some (if fits s.size e then (ap s e, 0) else (⟨#[]⟩, 2)) := by
  unfold emendateref03_Apply.f
  rw [fits_ref _ hs]
  simp only [Option.bind_some, decide_eq_true_eq]
  by_cases h : fits s.size e
  · have h' := h
    unfold fits at h'
    obtain ⟨a, b, c⟩ := h'
    have x1 := size_extract s 0 e.f0.toNat (by omega)
    have x2 := size_extract s (e.f0 + e.f1).toNat s.size (Nat.le_refl _)
    have x3 := size_append (s.extract 0 e.f0.toNat) e.f2
    rw [if_pos h, if_pos h, if_pos a, if_pos (by omega), if_pos (by omega), w64 (by omega) (by omega), if_pos (by omega), if_pos (by omega), if_pos (by omega)]
    rfl
  · rw [if_neg h, if_neg h]

theorem invert_eq (s : ByteArray) (e : S31) (hs : s.size ≤ 1099511627776) :
    textedit_Invert.f s e.f0 e.f1 e.f2 = some (if fits s.size e then ((inv s e).f0, (inv s e).f1, (inv s e).f2, 0) else (0, 0, ⟨#[]⟩, 2)) := by
  unfold textedit_Invert.f
  rw [fits_eq _ hs]
  simp only [Option.bind_some, decide_eq_true_eq]
  by_cases h : fits s.size e
  · have h' := h
    unfold fits at h'
    obtain ⟨a, b, c⟩ := h'
    rw [if_pos h, if_pos h, if_pos a, w64 (by omega) (by omega), if_pos (by omega), if_pos (by omega)]
    rfl
  · rw [if_neg h, if_neg h]
theorem invert_ref (s : ByteArray) (e : S31) (hs : s.size ≤ 1099511627776) :
    emendateref03_Invert.f s e.f0 e.f1 e.f2 = some (if fits s.size e then ((inv s e).f0, (inv s e).f1, (inv s e).f2, 0) else (0, 0, ⟨#[]⟩, 2)) := by
  unfold emendateref03_Invert.f
  rw [fits_ref _ hs]
  simp only [Option.bind_some, decide_eq_true_eq]
  by_cases h : fits s.size e
  · have h' := h
    unfold fits at h'
    obtain ⟨a, b, c⟩ := h'
    rw [if_pos h, if_pos h, if_pos a, w64 (by omega) (by omega), if_pos (by omega), if_pos (by omega)]
    rfl
  · rw [if_neg h, if_neg h]

/-! #### an edit that fits, as a text in three parts -/
theorem L_ap (s : ByteArray) (e : S31) : L (ap s e) = (L s).take e.f0.toNat ++ L e.f2 ++ (L s).drop (e.f0 + e.f1).toNat := by
  unfold ap
  rw [L_append, L_append, L_extract, L_extract, List.drop_zero, ← L_length s, List.take_length]
theorem ap_size {s : ByteArray} {e : S31} (h : fits s.size e) : ((ap s e).size : Int) = s.size - e.f1 + e.f2.size := by
  unfold fits at h
  have := size_extract s 0 e.f0.toNat (by omega)
  have x2 := size_extract s (e.f0 + e.f1).toNat s.size (Nat.le_refl _)
  unfold ap
  rw [size_append, size_append]
  omega
theorem ap_size_le {s : ByteArray} {e : S31} (h : fits s.size e) : (ap s e).size ≤ s.size + e.f2.size := by
  have := ap_size h
  unfold fits at h
  omega
theorem inv_fits {s : ByteArray} {e : S31} (h : fits s.size e) : fits (ap s e).size (inv s e) := by
  have := ap_size h
  unfold fits at h ⊢
  simp only [inv]
  omega
theorem inv_size {s : ByteArray} {e : S31} (h : fits s.size e) : ((inv s e).f2.size : Int) = e.f1 := by
  unfold fits at h
  simp only [inv]
  rw [size_extract _ _ _ (by omega)]
  omega
theorem ap_inv {s : ByteArray} {e : S31} (h : fits s.size e) : ap (ap s e) (inv s e) = s := by
  apply L_inj
  rw [L_ap, L_ap]
  unfold fits at h
  have hl := L_length s
  have h1 : ((L s).take e.f0.toNat).length = e.f0.toNat := by rw [List.length_take]; omega
  simp only [inv]
  rw [L_extract]
  have e1 : (List.take e.f0.toNat (List.take e.f0.toNat (L s) ++ L e.f2 ++ List.drop (e.f0 + e.f1).toNat (L s))) = List.take e.f0.toNat (L s) := by
    rw [List.append_assoc, List.take_append_of_le_length (by omega), List.take_take, Nat.min_self]
  have e2 : List.drop (e.f0 + (e.f2.size : Int)).toNat (List.take e.f0.toNat (L s) ++ L e.f2 ++ List.drop (e.f0 + e.f1).toNat (L s)) = List.drop (e.f0 + e.f1).toNat (L s) := by
    have : (e.f0 + (e.f2.size : Int)).toNat = (List.take e.f0.toNat (L s) ++ L e.f2).length := by
      rw [List.length_append, h1, L_length]; omega
    rw [this, List.drop_left]
  rw [e1, e2]
  have e3 : List.take e.f0.toNat (L s) ++ List.drop e.f0.toNat (List.take (e.f0 + e.f1).toNat (L s)) = List.take (e.f0 + e.f1).toNat (L s) := by
    have : List.take e.f0.toNat (L s) = List.take e.f0.toNat (List.take (e.f0 + e.f1).toNat (L s)) := by
      rw [List.take_take, Nat.min_eq_left (by omega)]
    rw [this, List.take_append_drop]
  rw [e3, List.take_append_drop]
theorem inv_inv {s : ByteArray} {e : S31} (h : fits s.size e) : inv (ap s e) (inv s e) = e := by
  have hz := inv_size h
  unfold fits at h
  have hl := L_length s
  have h1 : ((L s).take e.f0.toNat).length = e.f0.toNat := by rw [List.length_take]; omega
  obtain ⟨a, b, i⟩ := e
  simp only [inv] at hz h h1 ⊢
  refine S31.mk.injEq .. ▸ ⟨rfl, hz, ?_⟩
  apply L_inj
  rw [L_extract, L_ap]
  simp only
  have : (a + (i.size : Int)).toNat = (List.take a.toNat (L s) ++ L i).length := by
    rw [List.length_append, h1, L_length]; omega
  rw [this, List.take_left]
  conv => lhs; arg 1; rw [← h1]
  rw [List.drop_left]

/-! #### lists of edits -/
def apAll (s : ByteArray) : List S31 → Option ByteArray
  | [] => some s
  | e :: l => if fits s.size e then apAll (ap s e) l else none
/-- The inverses, the first edit's first. -/
def invList (s : ByteArray) : List S31 → List S31
  | [] => []
  | e :: l => inv s e :: invList (ap s e) l
def sz : List S31 → Nat
  | [] => 0
  | e :: l => e.f2.size + sz l
theorem sz_append (a b : List S31) : sz (a ++ b) = sz a + sz b := by
  induction a with
  | nil => simp [sz]
  | cons e l ih => simp only [List.cons_append, sz, ih]; omega
theorem apAll_append (s : ByteArray) (a b : List S31) : apAll s (a ++ b) = (apAll s a).bind fun t => apAll t b := by
  induction a generalizing s with
  | nil => simp [apAll]
  | cons e l ih =>
    simp only [List.cons_append, apAll]
    by_cases h : fits s.size e
    · rw [if_pos h, if_pos h, ih]
    · rw [if_neg h, if_neg h]; rfl
theorem invList_append (s t : ByteArray) (a b : List S31) (h : apAll s a = some t) : invList s (a ++ b) = invList s a ++ invList t b := by
  induction a generalizing s with
  | nil => simp [apAll] at h; subst h; rfl
  | cons e l ih =>
    simp only [apAll] at h
    by_cases hf : fits s.size e
    · rw [if_pos hf] at h
      simp only [List.cons_append, invList, ih _ h]
    · rw [if_neg hf] at h; cases h
theorem apAll_size {s t : ByteArray} {l : List S31} (h : apAll s l = some t) : t.size ≤ s.size + sz l := by
  induction l generalizing s with
  | nil => simp [apAll] at h; subst h; simp [sz]
  | cons e l ih =>
    simp only [apAll] at h
    by_cases hf : fits s.size e
    · rw [if_pos hf] at h
      have := ih h
      have := ap_size_le hf
      simp only [sz]; omega
    · rw [if_neg hf] at h; cases h
theorem invList_length (s : ByteArray) (l : List S31) : (invList s l).length = l.length := by
  induction l generalizing s with
  | nil => rfl
  | cons e l ih => simp [invList, ih]
theorem undo_all {s t : ByteArray} {l : List S31} (h : apAll s l = some t) : apAll t (invList s l).reverse = some s ∧ (invList t (invList s l).reverse).reverse = l := by
  induction l generalizing s with
  | nil => simp [apAll] at h; subst h; simp [invList, apAll]
  | cons e l ih =>
    simp only [apAll] at h
    by_cases hf : fits s.size e
    · rw [if_pos hf] at h
      obtain ⟨h1, h2⟩ := ih h
      simp only [invList, List.reverse_cons]
      refine ⟨?_, ?_⟩
      · rw [apAll_append, h1]
        simp only [Option.bind_some, apAll]
        rw [if_pos (inv_fits hf), ap_inv hf]
      · rw [invList_append _ _ _ _ h1, List.reverse_append, h2]
        simp [invList, inv_inv hf]
    · rw [if_neg hf] at h; cases h
end Go.Proofs.Ytnmgcghbfnpofaa.Plain
