/- The composed edit has the range and text that the reference gives. -/
import Derived.Test.YtnmgcghbfnpofaaQ36
import Derived.Test.YtnmgcghbfnpofaaA15
namespace Go.Proofs.Ytnmgcghbfnpofaa.Pure
open Go.RowKit Go.Proofs.Ytnmgcghbfnpofaa.PAll Go.Proofs.YtnmgcghbfnpofaaW.PrintWords Go.Proofs.Ytnmgcghbfnpofaa.Open Go.Proofs.Ytnmgcghbfnpofaa.Plain
set_option linter.unusedVariables false
/-- One round of the reference's loop. -/
theorem ref_j1 {s t : ByteArray} {h : Hul} {e : S31} (H : Hull s t h) (hf : fits t.size e) (hs : s.size ≤ 1099511627776) (ht : t.size ≤ 1099511627776) (he : e.f2.size ≤ 1099511627776) (k : Nat) (l : List S31) (u : ByteArray) (i : Int) :
    emendateref03_Compose.j1 (k + 1) l h.f h.o h.n i u e.f0 e.f1 e.f2 = emendateref03_Compose.l0 k l (hstep h e).f (hstep h e).o (hstep h e).n u (wrap64 (i + 1)) := by
  obtain ⟨h0, h1, h2, h3, h4, h5, h6, h7⟩ := H
  clear h6 h7
  unfold fits at hf
  obtain ⟨a0, a1, a2⟩ := hf
  simp only [emendateref03_Compose.j1, hstep]
  rw [w64 (n := e.f0 + e.f1) (by omega) (by omega), w64 (n := e.f0 + e.f1 - h.n) (by omega) (by omega), w64 (n := h.o + (e.f0 + e.f1 - h.n)) (by omega) (by omega), w64 (n := e.f0 + e.f1 + (e.f2.size : Int)) (by omega) (by omega), w64 (n := e.f0 + e.f1 + (e.f2.size : Int) - e.f1) (by omega) (by omega), w64 (n := h.n + (e.f2.size : Int)) (by omega) (by omega), w64 (n := h.n + (e.f2.size : Int) - e.f1) (by omega) (by omega)]
  have q1 : e.f0 + e.f1 + ((e.f2.size : Int) - e.f1) = e.f0 + e.f1 + e.f2.size - e.f1 := by omega
  have q2 : h.n + ((e.f2.size : Int) - e.f1) = h.n + e.f2.size - e.f1 := by omega
  by_cases c : e.f0 < h.f <;> by_cases d : e.f0 + e.f1 - h.n > 0
  · rw [if_pos c, if_pos (by omega), if_pos c, if_pos d, if_pos d, q1]
  · rw [if_pos c, if_neg (by omega), if_pos c, if_neg d, if_neg d, q2]
  · rw [if_neg c, if_pos (by omega), if_neg c, if_pos d, if_pos d, q1]
  · rw [if_neg c, if_neg (by omega), if_neg c, if_neg d, if_neg d, q2]
def out (o : Option ByteArray) (h : Hul) : Int × Int × ByteArray × Int := match o with | some t => fin t h | none => (0, 0, ⟨#[]⟩, 2)
/-- The reference's loop behind its first round. -/
theorem ref_l0 (s : ByteArray) (hs : s.size ≤ 1099511627776) (l : List S31) (hl : l.length ≤ 1000) (d : Nat) : ∀ (k : Nat) (u : ByteArray) (h : Hul) (i : Nat), 0 < i → i + d = l.length → 2 * d < k → u.size + sz (l.drop i) ≤ 1099511627776 →
    Hull s u h → emendateref03_Compose.l0 k l h.f h.o h.n u i = some (out (apAll u (l.drop i)) ((l.drop i).foldl hstep h)) := by
  induction d with
  | zero =>
    intro k u h i h0i hi hk hsz H
    obtain ⟨k, rfl⟩ : ∃ m, k = m + 1 := ⟨k - 1, by omega⟩
    rw [List.drop_of_length_le (by omega)]
    obtain ⟨h0, h1, h2, h3, h4, h5, h6, h7⟩ := H
    simp only [emendateref03_Compose.l0, List.foldl_nil, apAll, out, fin]
    rw [if_neg (by omega), if_pos h0, if_pos h2, if_pos h4, w64 (by omega) (by omega)]
  | succ d ih =>
    intro k u h i h0i hi hk hsz H
    obtain ⟨k, rfl⟩ : ∃ m, k = m + 1 + 1 := ⟨k - 2, by omega⟩
    have hlt : i < l.length := by omega
    have hd : l.drop i = l[i] :: l.drop (i + 1) := List.drop_eq_getElem_cons hlt
    rw [hd] at hsz ⊢
    simp only [sz] at hsz
    rw [emendateref03_Compose.l0, if_pos (by omega), if_pos (by omega), rd_eq hlt, apply_ref _ _ (by omega) (by omega)]
    simp only [Option.bind_some, apAll]
    by_cases hf : fits u.size l[i]
    · have hap := ap_size_le hf
      rw [if_pos hf, if_pos hf, if_pos rfl, if_neg (by omega), ref_j1 H hf hs (by omega) (by omega), w64 (by omega) (by omega)]
      exact ih k (ap u l[i]) _ (i + 1) (by omega) (by omega) (by omega) (by omega) (hull_step H hf)
    · rw [if_neg hf, if_neg hf, if_neg (by simp)]
      rfl
theorem ref_eq (k : Nat) (s : ByteArray) (l : List S31) (hl : l.length ≤ 1000) (hk : 2 * l.length < k) (hs : s.size + sz l ≤ 1099511627776) :
    emendateref03_Compose.f k s l = some (comp s l) := by
  unfold emendateref03_Compose.f
  cases l with
  | nil => simp [comp]
  | cons e r =>
    simp only [List.length_cons] at hl hk
    simp only [sz] at hs
    obtain ⟨k, rfl⟩ : ∃ m, k = m + 1 + 1 := ⟨k - 2, by omega⟩
    have hr0 : rd_T31 (e :: r) 0 = e := rfl
    rw [if_neg (by simp; omega), emendateref03_Compose.l0, if_pos (by simp), if_pos (by omega), hr0, apply_ref _ _ (by omega) (by omega)]
    simp only [Option.bind_some, comp, apAll]
    by_cases hf : fits s.size e
    · have hap := ap_size_le hf
      have hf' := hf
      unfold fits at hf'
      have H0 := hull_start s e.f0 (by omega) (by omega)
      rw [if_pos hf, if_pos hf, if_pos rfl, if_pos trivial]
      have hj := ref_j1 H0 hf (by omega) (by omega) (by omega) k (e :: r) (ap s e) 0
      rw [hj, w64 (by omega) (by omega)]
      have := ref_l0 s (by omega) (e :: r) (by simp; omega) r.length k (ap s e) _ 1 (by omega) (by simp; omega) (by omega) (by simp; omega) (hull_step H0 hf)
      simp only [List.drop_one, List.tail_cons] at this
      rw [show (0 : Int) + 1 = ((1 : Nat) : Int) from rfl, this]
      simp only [List.foldl_cons]
      cases apAll (ap s e) r <;> rfl
    · rw [if_neg hf, if_neg hf, if_neg (by simp)]
theorem TexteditComposeHull (s : ByteArray) (l : List S31) (hs : s.size ≤ 140737488351232) (ho : ∀ e ∈ l, OkE e) (hy : l.length * 32 ≤ 140737488351232) :
    ∃ k, emendatelaw03_TexteditComposeHull.f k s l = some true := by
  refine ⟨2 * l.length + 20, ?_⟩
  unfold emendatelaw03_TexteditComposeHull.f
  rw [awake_eq _ (by omega), few_eq _ s l ho (by omega)]
  simp only [Option.bind_some, if_true, decide_eq_true_eq]
  by_cases hf : Few s l
  · rw [if_pos hf]
    obtain ⟨h1, h2, h3⟩ := hf
    rw [compose_eq _ _ _ (by omega) (by omega) (by omega), ref_eq _ _ _ (by omega) (by omega) (by omega)]
    simp
  · rw [if_neg hf]
end Go.Proofs.Ytnmgcghbfnpofaa.Pure
