/- ApplyAll, the bound on sizes, and the document's examples, in plain words. -/
import Derived.Test.YtnmgcghbfnpofaaQ0
import Derived.Test.YtnmgcghbfnpofaaA31
import Derived.Test.YtnmgcghbfnpofaaA32
import Derived.Test.YtnmgcghbfnpofaaR0
namespace Go.Proofs.Ytnmgcghbfnpofaa.Plain
open Go.RowKit Go.Proofs.Ytnmgcghbfnpofaa.PAll Go.Proofs.YtnmgcghbfnpofaaW.PrintWords Go.Proofs.Ytnmgcghbfnpofaa.Open
set_option linter.unusedVariables false

theorem rd_eq {l : List S31} {i : Nat} (h : i < l.length) : rd_T31 l (i : Int) = l[i] := by
  unfold rd_T31
  rw [Int.toNat_natCast, List.getD_eq_getElem?_getD, List.getElem?_eq_getElem h]; rfl
theorem sz_drop_le (l : List S31) (i : Nat) : sz (l.drop i) ≤ sz l := by
  conv => rhs; rw [← List.take_append_drop i l]
  rw [sz_append]; omega
theorem sz_mem {l : List S31} {e : S31} (h : e ∈ l) : e.f2.size ≤ sz l := by
  induction l with
  | nil => cases h
  | cons x r ih =>
    simp only [sz]
    rcases List.mem_cons.1 h with rfl | h
    · omega
    · have := ih h; omega

def res : Option ByteArray → ByteArray × Int
  | some t => (t, 0)
  | none => (⟨#[]⟩, 2)

theorem applyAll_l0 (l : List S31) (hl : l.length ≤ 1000) (d : Nat) : ∀ (k : Nat) (s : ByteArray) (i : Nat), i + d = l.length → d < k → s.size + sz (l.drop i) ≤ 1099511627776 →
    textedit_ApplyAll.l0 k s l l.length i = some (res (apAll s (l.drop i))) := by
  induction d with
  | zero =>
    intro k s i hi hk hs
    obtain ⟨k, rfl⟩ : ∃ m, k = m + 1 := ⟨k - 1, by omega⟩
    simp only [textedit_ApplyAll.l0]
    rw [if_neg (by omega), List.drop_of_length_le (by omega)]
    rfl
  | succ d ih =>
    intro k s i hi hk hs
    obtain ⟨k, rfl⟩ : ∃ m, k = m + 1 := ⟨k - 1, by omega⟩
    have hlt : i < l.length := by omega
    have hd : l.drop i = l[i] :: l.drop (i + 1) := List.drop_eq_getElem_cons hlt
    rw [hd] at hs ⊢
    simp only [sz] at hs
    simp only [textedit_ApplyAll.l0]
    rw [if_pos (by omega), if_pos (by omega), if_pos (by omega), rd_eq hlt, apply_eq _ _ (by omega) (by omega)]
    simp only [Option.bind_some, apAll]
    by_cases hf : fits s.size l[i]
    · rw [if_pos hf, if_pos hf, if_pos rfl, w64 (by omega) (by omega)]
      have := ap_size_le hf
      exact ih k (ap s l[i]) (i + 1) (by omega) (by omega) (by omega)
    · rw [if_neg hf, if_neg hf, if_neg (by simp)]
      rfl
theorem applyAll_eq (k : Nat) (s : ByteArray) (l : List S31) (hl : l.length ≤ 1000) (hk : l.length < k) (hs : s.size + sz l ≤ 1099511627776) :
    textedit_ApplyAll.f k s l = some (res (apAll s l)) := by
  unfold textedit_ApplyAll.f
  have := applyAll_l0 l hl l.length k s 0 (by omega) hk (by simpa using hs)
  simpa using this

theorem size_l0 (l : List S31) (hl : l.length ≤ 12) (ho : ∀ e ∈ l, OkE e) (d : Nat) : ∀ (k : Nat) (n i : Nat), i + d = l.length → d < k → n ≤ i * 140737488351232 →
    emendateref03_Size.l0 k l n i = some (((n + sz (l.drop i) : Nat)) : Int) := by
  induction d with
  | zero =>
    intro k n i hi hk hn
    obtain ⟨k, rfl⟩ : ∃ m, k = m + 1 := ⟨k - 1, by omega⟩
    simp only [emendateref03_Size.l0]
    rw [if_neg (by omega), List.drop_of_length_le (by omega)]
    simp [sz]
  | succ d ih =>
    intro k n i hi hk hn
    obtain ⟨k, rfl⟩ : ∃ m, k = m + 1 := ⟨k - 1, by omega⟩
    have hlt : i < l.length := by omega
    have hd : l.drop i = l[i] :: l.drop (i + 1) := List.drop_eq_getElem_cons hlt
    have hb := (ho l[i] (List.getElem_mem hlt)).2.2
    rw [hd]
    simp only [sz]
    simp only [emendateref03_Size.l0]
    rw [if_pos (by omega), if_pos (by omega), rd_eq hlt, w64 (n := (n : Int) + _) (by omega) (by omega), w64 (n := (i : Int) + 1) (by omega) (by omega)]
    have := ih k (n + l[i].f2.size) (i + 1) (by omega) (by omega) (by omega)
    have e1 : ((n + l[i].f2.size : Nat) : Int) = (n : Int) + l[i].f2.size := by omega
    have e2 : ((i + 1 : Nat) : Int) = (i : Int) + 1 := by omega
    rw [e1, e2] at this
    rw [this, Nat.add_assoc]

/-- What 'few' lets in. -/
def Few (s : ByteArray) (l : List S31) : Prop := s.size ≤ 300 ∧ l.length ≤ 12 ∧ sz l ≤ 400
instance (s : ByteArray) (l : List S31) : Decidable (Few s l) := by unfold Few; infer_instance
theorem few_eq (k : Nat) (s : ByteArray) (l : List S31) (ho : ∀ e ∈ l, OkE e) (hk : l.length < k) : emendatelaw03_few.f k s l = some (decide (Few s l)) := by
  unfold emendatelaw03_few.f
  by_cases h1 : (s.size : Int) ≤ 300
  · rw [if_pos h1]
    by_cases h2 : (l.length : Int) ≤ 12
    · rw [if_pos h2]
      unfold emendateref03_Size.f
      have := size_l0 l (by omega) ho l.length k 0 0 (by omega) hk (by omega)
      simp only [Nat.zero_add, List.drop_zero] at this
      rw [show ((0 : Nat) : Int) = 0 from rfl] at this
      rw [this]
      simp only [Option.bind_some]
      congr 1
      rw [decide_eq_decide]
      unfold Few; omega
    · rw [if_neg h2, decide_eq_false]
      unfold Few; omega
  · rw [if_neg h1, decide_eq_false]
    unfold Few; omega

set_option maxRecDepth 100000 in
theorem awake_10 : emendatelaw03_awake.f 10 = some true := by decide +kernel
theorem awake_eq (k : Nat) (hk : 10 ≤ k) : emendatelaw03_awake.f k = some true := by
  obtain ⟨d, rfl⟩ : ∃ d, k = 10 + d := ⟨k - 10, by omega⟩
  clear hk
  induction d with
  | zero => exact awake_10
  | succ d ih => exact emendatelaw03_awake.mono (10 + d) _ ih
end Go.Proofs.Ytnmgcghbfnpofaa.Plain
