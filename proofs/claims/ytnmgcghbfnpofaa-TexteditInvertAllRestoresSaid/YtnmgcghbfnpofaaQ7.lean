/- A list of edits followed by its inverse list restores the string, and the inverse of the inverse list is the list. -/
import Derived.Test.YtnmgcghbfnpofaaQ1
import Derived.Test.YtnmgcghbfnpofaaA7
namespace Go.Proofs.Ytnmgcghbfnpofaa.Pure
open Go.RowKit Go.Proofs.Ytnmgcghbfnpofaa.PAll Go.Proofs.YtnmgcghbfnpofaaW.PrintWords Go.Proofs.Ytnmgcghbfnpofaa.Open Go.Proofs.Ytnmgcghbfnpofaa.Plain
set_option linter.unusedVariables false
def resL (s : ByteArray) (l : List S31) : List S31 × Int := if (apAll s l).isSome then ((invList s l).reverse, 0) else ([], 2)

/-- After i rounds the last i places hold the inverses of the first i edits, the last first. -/
theorem invertAll_l0 (l : List S31) (hl : l.length ≤ 1000) (d : Nat) : ∀ (k : Nat) (s : ByteArray) (done : List S31) (i : Nat), i + d = l.length → done.length = i → d < k → s.size + sz (l.drop i) ≤ 1099511627776 →
    textedit_InvertAll.l0 k s l (List.replicate d z31 ++ done) l l.length i = some (if (apAll s (l.drop i)).isSome then ((invList s (l.drop i)).reverse ++ done, 0) else ([], 2)) := by
  induction d with
  | zero =>
    intro k s done i hi hdn hk hs
    obtain ⟨k, rfl⟩ : ∃ m, k = m + 1 := ⟨k - 1, by omega⟩
    simp only [textedit_InvertAll.l0]
    rw [if_neg (by omega), List.drop_of_length_le (by omega)]
    simp [apAll, invList]
  | succ d ih =>
    intro k s done i hi hdn hk hs
    obtain ⟨k, rfl⟩ : ∃ m, k = m + 1 := ⟨k - 1, by omega⟩
    have hlt : i < l.length := by omega
    have hd : l.drop i = l[i] :: l.drop (i + 1) := List.drop_eq_getElem_cons hlt
    rw [hd] at hs ⊢
    simp only [sz] at hs
    simp only [textedit_InvertAll.l0]
    rw [if_pos (by omega), if_pos (by omega), if_pos (by omega), rd_eq hlt, invert_eq _ _ (by omega), apply_eq _ _ (by omega) (by omega)]
    simp only [Option.bind_some, apAll, invList]
    by_cases hf : fits s.size l[i]
    · have hap := ap_size_le hf
      have hlen : (List.replicate (d + 1) z31 ++ done).length = l.length := by simp; omega
      have hw : wrap64 (wrap64 ((l.length : Int) - 1) - i) = (d : Int) := by rw [w64 (n := (l.length : Int) - 1) (by omega) (by omega), w64 (by omega) (by omega)]; omega
      simp only [if_pos hf, if_true, hw, hlen]
      rw [if_pos (by omega), if_pos (by omega), w64 (by omega) (by omega), Int.toNat_natCast]
      have hset : (List.replicate (d + 1) z31 ++ done).set d ⟨(inv s l[i]).f0, (inv s l[i]).f1, (inv s l[i]).f2⟩ = List.replicate d z31 ++ (inv s l[i] :: done) := by
        rw [List.set_append_left _ _ (by simp), List.replicate_succ', List.set_append_right _ _ (by simp)]
        simp
      rw [hset]
      have := ih k (ap s l[i]) (inv s l[i] :: done) (i + 1) (by omega) (by simp; omega) (by omega) (by omega)
      rw [show ((i + 1 : Nat) : Int) = (i : Int) + 1 from by omega] at this
      rw [this]
      simp
    · simp [if_neg hf]
theorem invertAll_eq (k : Nat) (s : ByteArray) (l : List S31) (hl : l.length ≤ 1000) (hk : l.length < k) (hs : s.size + sz l ≤ 1099511627776) :
    textedit_InvertAll.f k s l = some (resL s l) := by
  unfold textedit_InvertAll.f
  rw [if_pos (by omega), Int.toNat_natCast, if_pos (by omega)]
  have := invertAll_l0 l hl l.length k s [] 0 (by omega) rfl hk (by simpa using hs)
  simpa [resL] using this
theorem same_l0 (l : List S31) (hl : l.length ≤ 1000) (d : Nat) : ∀ (k i : Nat), i + d = l.length → d < k → emendateref03_Same.l0 k l l i = some true := by
  induction d with
  | zero =>
    intro k i hi hk
    obtain ⟨k, rfl⟩ : ∃ m, k = m + 1 := ⟨k - 1, by omega⟩
    simp only [emendateref03_Same.l0]
    rw [if_neg (by omega)]
  | succ d ih =>
    intro k i hi hk
    obtain ⟨k, rfl⟩ : ∃ m, k = m + 1 := ⟨k - 1, by omega⟩
    simp only [emendateref03_Same.l0]
    rw [if_pos (by omega), if_pos (by omega), if_pos (by omega), w64 (by omega) (by omega)]
    have := ih k (i + 1) (by omega) (by omega)
    rw [show ((i + 1 : Nat) : Int) = (i : Int) + 1 from by omega] at this
    simp [this]
theorem same_eq (k : Nat) (l : List S31) (hl : l.length ≤ 1000) (hk : l.length < k) : emendateref03_Same.f k l l = some true := by
  unfold emendateref03_Same.f
  rw [if_pos rfl]
  exact same_l0 l hl l.length k 0 (by omega) hk
/-- The inverses insert what the edits delete. -/
theorem sz_invList {s t : ByteArray} {l : List S31} (h : apAll s l = some t) : t.size + sz (invList s l) = s.size + sz l := by
  induction l generalizing s with
  | nil => simp [apAll] at h; subst h; simp [sz, invList]
  | cons e l ih =>
    simp only [apAll] at h
    by_cases hf : fits s.size e
    · rw [if_pos hf] at h
      have := ih h
      have h1 := ap_size hf
      have h2 := inv_size hf
      simp only [sz, invList]; omega
    · rw [if_neg hf] at h; cases h
theorem sz_reverse (l : List S31) : sz l.reverse = sz l := by
  induction l with
  | nil => rfl
  | cons e l ih => rw [List.reverse_cons, sz_append, ih]; simp only [sz]; omega
theorem TexteditInvertAllRestores (s : ByteArray) (l : List S31) (hs : s.size ≤ 140737488351232) (ho : ∀ e ∈ l, OkE e) (hy : l.length * 32 ≤ 140737488351232) :
    ∃ k, emendatelaw03_TexteditInvertAllRestores.f k s l = some true := by
  refine ⟨l.length + 20, ?_⟩
  unfold emendatelaw03_TexteditInvertAllRestores.f
  rw [awake_eq _ (by omega), few_eq _ s l ho (by omega)]
  simp only [Option.bind_some, if_true, decide_eq_true_eq]
  by_cases hf : Few s l
  · rw [if_pos hf]
    obtain ⟨h1, h2, h3⟩ := hf
    rw [applyAll_eq _ _ _ (by omega) (by omega) (by omega), invertAll_eq _ _ _ (by omega) (by omega) (by omega)]
    simp only [Option.bind_some]
    cases ha : apAll s l with
    | none => simp [res, resL, ha]
    | some t =>
      have hz := sz_invList ha
      obtain ⟨u1, u2⟩ := undo_all ha
      have hlen : (invList s l).reverse.length = l.length := by rw [List.length_reverse, invList_length]
      have hr : resL s l = ((invList s l).reverse, 0) := by simp [resL, ha]
      have hr2 : resL t (invList s l).reverse = (l, 0) := by simp only [resL, u1, Option.isSome_some, if_true, u2]
      simp only [res, hr, if_true]
      rw [applyAll_eq _ _ _ (by omega) (by omega) (by rw [sz_reverse]; omega), invertAll_eq _ _ _ (by omega) (by omega) (by rw [sz_reverse]; omega)]
      simp only [Option.bind_some, u1, hr2, res, if_true, same_eq _ l (show l.length ≤ 1000 by omega) (show l.length < l.length + 20 by omega)]
  · rw [if_neg hf]
end Go.Proofs.Ytnmgcghbfnpofaa.Pure
