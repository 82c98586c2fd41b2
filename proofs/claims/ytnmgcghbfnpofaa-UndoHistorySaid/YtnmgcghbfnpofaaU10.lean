/- The reference's state beside the history, in plain words. -/
import Derived.Test.YtnmgcghbfnpofaaV4
import Derived.Test.YtnmgcghbfnpofaaA22
import Derived.Test.YtnmgcghbfnpofaaA25
namespace Go.Proofs.Ytnmgcghbfnpofaa.Hist
open Go.RowKit Go.Proofs.Ytnmgcghbfnpofaa.PAll Go.Proofs.YtnmgcghbfnpofaaW.PrintWords Go.Proofs.Ytnmgcghbfnpofaa.Open Go.Proofs.Ytnmgcghbfnpofaa.Plain
set_option linter.unusedVariables false

theorem rd_at {l : List S31} {i : Nat} (h : i < l.length) : rd_T31 l (i : Int) = l[i] := by
  unfold rd_T31
  rw [Int.toNat_natCast, List.getD_eq_getElem?_getD, List.getElem?_eq_getElem h]; rfl
/-- The reference's state (s0, L, d, m.v) stands for m. -/
structure Sim (s0 : ByteArray) (m : M) (L : List S31) (d : Nat) : Prop where
  le : d ≤ L.length
  few : L.length ≤ 40
  small : s0.size + sz L ≤ 30000
  text : apAll s0 (L.take d) = some m.t
  un : m.un = (invList s0 (L.take d)).reverse
  re : m.re = L.drop d

theorem text_run (s0 : ByteArray) (L : List S31) (v : Int) (hf : L.length ≤ 40) (n : Nat) : ∀ (k : Nat) (t r : ByteArray) (i d : Nat), i + n = d → d ≤ L.length → n < k → t.size + sz (L.drop i) ≤ 100000 → apAll t ((L.take d).drop i) = some r →
    emendateref05_Text.l0 k t i s0 L d v = some r := by
  induction n with
  | zero =>
    intro k t r i d hi hd hk hz ha
    obtain ⟨k, rfl⟩ : ∃ q, k = q + 1 := ⟨k - 1, by omega⟩
    simp only [emendateref05_Text.l0]
    rw [if_neg (by omega)]
    rw [List.drop_eq_nil_of_le (by rw [List.length_take]; omega)] at ha
    exact ha
  | succ n ih =>
    intro k t r i d hi hd hk hz ha
    obtain ⟨k, rfl⟩ : ∃ q, k = q + 1 := ⟨k - 1, by omega⟩
    simp only [emendateref05_Text.l0]
    have hil : i < L.length := by omega
    have hit : i < (L.take d).length := by rw [List.length_take]; omega
    have hdr : L.drop i = L[i] :: L.drop (i + 1) := List.drop_eq_getElem_cons hil
    rw [hdr] at hz
    simp only [sz] at hz
    rw [List.drop_eq_getElem_cons hit, List.getElem_take] at ha
    simp only [apAll] at ha
    by_cases hfit : fits t.size L[i]
    · rw [if_pos hfit] at ha
      rw [if_pos (by omega), if_pos (by omega), if_pos (by omega), rd_at hil, apply_ref _ _ (by omega) (by omega), if_pos hfit, w64 (n := (i : Int) + 1) (by omega) (by omega)]
      have := ap_size_le hfit
      exact ih k _ r (i + 1) d (by omega) hd (by omega) (by dsimp only; omega) ha
    · rw [if_neg hfit] at ha; cases ha
theorem text_ref {s0 r : ByteArray} {L : List S31} {d : Nat} (v : Int) {k : Nat} (hf : L.length ≤ 40) (hd : d ≤ L.length) (hk : d < k) (hz : s0.size + sz L ≤ 30000) (ha : apAll s0 (L.take d) = some r) : emendateref05_Text.f k s0 L d v = some r := by
  unfold emendateref05_Text.f
  exact text_run s0 L v hf d k s0 r 0 d (by omega) hd hk (by rw [List.drop_zero]; omega) (by rw [List.drop_zero]; exact ha)
theorem sz_take_le (l : List S31) (i : Nat) : sz (l.take i) ≤ sz l := by
  conv => rhs; rw [← List.take_append_drop i l]
  rw [sz_append]; omega
theorem Sim.textSize {s0 : ByteArray} {m : M} {L : List S31} {d : Nat} (h : Sim s0 m L d) : m.t.size ≤ 30000 := by
  have h1 := apAll_size h.text
  have h2 := sz_take_le L d
  have h3 := h.small
  omega
theorem Sim.start (s0 : ByteArray) (hz : s0.size ≤ 30000) : Sim s0 ⟨s0, 0, [], []⟩ [] 0 := ⟨Nat.le_refl _, by simp, by simp [sz]; omega, rfl, rfl, rfl⟩

theorem redo_sim {s0 : ByteArray} {m m' : M} {L : List S31} {d : Nat} {a : S31} {er : Int} (h : Sim s0 m L d) (hv0 : 0 ≤ m.v) (hv1 : m.v ≤ 1000) (hst : redoM m = (m', a, er)) (hg : ∀ x ys, m.re = x :: ys → fits m.t.size x) :
    ∃ d' : Nat, emendateref05_Redo.f s0 L d m.v = some (s0, L, ((d' : Nat) : Int), m'.v, a.f0, a.f1, a.f2, er) ∧ Sim s0 m' L d' := by
  have hre := h.re
  have hd := h.le
  unfold emendateref05_Redo.f
  unfold redoM at hst
  by_cases he : d = L.length
  · rw [he, List.drop_length] at hre
    rw [hre] at hst
    injection hst with e1 e2
    injection e2 with e2 e3
    subst e1 e2 e3
    rw [if_pos (by omega)]
    exact ⟨d, rfl, h⟩
  · have hl : d < L.length := by omega
    rw [List.drop_eq_getElem_cons hl] at hre
    rw [hre] at hst
    injection hst with e1 e2
    injection e2 with e2 e3
    subst e1 e2 e3
    have hfit := hg _ _ hre
    have htk : L.take (d + 1) = L.take d ++ [L[d]] := by rw [List.take_add_one, List.getElem?_eq_getElem hl]; rfl
    have hf := h.few
    rw [if_neg (by omega), if_pos (by omega), if_pos (by omega), rd_at hl, w64 (n := (d : Int) + 1) (by omega) (by omega), w64 (n := m.v + 1) (by omega) (by omega)]
    refine ⟨d + 1, by simp, by omega, h.few, h.small, ?_, ?_, rfl⟩
    · rw [htk, apAll_append, h.text]
      simp only [Option.bind_some, apAll]
      rw [if_pos hfit]
    · rw [htk, invList_append _ _ _ _ h.text, List.reverse_append]
      simp only [invList, List.reverse_cons, List.reverse_nil, List.nil_append, List.singleton_append]
      rw [h.un]
theorem undo_sim {s0 : ByteArray} {m m' : M} {L : List S31} {d k : Nat} {a : S31} {er : Int} (h : Sim s0 m L d) (hk : d < k) (hv0 : 0 ≤ m.v) (hv1 : m.v ≤ 1000) (hst : undoM m = (m', a, er)) :
    ∃ d' : Nat, emendateref05_Undo.f k s0 L d m.v = some (s0, L, ((d' : Nat) : Int), m'.v, a.f0, a.f1, a.f2, er) ∧ Sim s0 m' L d' := by
  have hun := h.un
  have hd := h.le
  unfold emendateref05_Undo.f
  unfold undoM at hst
  cases d with
  | zero =>
    rw [List.take_zero] at hun
    simp only [invList, List.reverse_nil] at hun
    rw [hun] at hst
    injection hst with e1 e2
    injection e2 with e2 e3
    subst e1 e2 e3
    rw [if_pos (show ((0 : Nat) : Int) = 0 from rfl)]
    exact ⟨0, rfl, h⟩
  | succ d =>
    have hl : d < L.length := by omega
    have htk : L.take (d + 1) = L.take d ++ [L[d]] := by rw [List.take_add_one, List.getElem?_eq_getElem hl]; rfl
    have htx := h.text
    rw [htk, apAll_append] at htx
    obtain ⟨t, h1, h2⟩ := Option.bind_eq_some_iff.1 htx
    simp only [apAll] at h2
    by_cases hfit : fits t.size L[d]
    · rw [if_pos hfit] at h2
      have h2 := Option.some.inj h2
      rw [htk, invList_append _ _ _ _ h1, List.reverse_append] at hun
      simp only [invList, List.reverse_cons, List.reverse_nil, List.nil_append, List.singleton_append] at hun
      rw [hun] at hst
      injection hst with e1 e2
      injection e2 with e2 e3
      subst e1 e2 e3
      have hf := h.few
      have hz := h.small
      have ht := apAll_size h1
      have ht2 := sz_take_le L d
      rw [if_neg (by omega), w64 (n := ((d + 1 : Nat) : Int) - 1) (by omega) (by omega), show ((d + 1 : Nat) : Int) - 1 = (d : Nat) by omega, w64 (n := m.v + 1) (by omega) (by omega), text_ref _ h.few (by omega) (by omega) h.small h1]
      simp only [Option.bind_some]
      rw [if_pos (by omega), if_pos (by omega), rd_at hl, invert_ref _ _ (by omega), if_pos hfit]
      refine ⟨d, rfl, by omega, h.few, h.small, ?_, rfl, ?_⟩
      · rw [h1, ← h2, ap_inv hfit]
      · rw [← h2, inv_inv hfit, h.re, List.drop_eq_getElem_cons hl]
    · rw [if_neg hfit] at h2; cases h2
theorem do_sim {s0 : ByteArray} {m m' : M} {L : List S31} {d k : Nat} {e : S31} {er : Int} (h : Sim s0 m L d) (hk : d < k) (hl : L.length < 40) (hv0 : 0 ≤ m.v) (hv1 : m.v ≤ 1000) (hz : s0.size + sz L + e.f2.size ≤ 30000) (hst : doM m e = (m', er)) :
    ∃ (L' : List S31) (d' : Nat), emendateref05_Do.f k s0 L d m.v e.f0 e.f1 e.f2 = some (s0, L', ((d' : Nat) : Int), m'.v, er) ∧ Sim s0 m' L' d' ∧ sz L' ≤ sz L + e.f2.size ∧ L'.length ≤ L.length + 1 := by
  have hd := h.le
  have hts := h.textSize
  unfold emendateref05_Do.f
  rw [text_ref _ h.few hd hk h.small h.text]
  simp only [Option.bind_some]
  rw [apply_ref _ _ (by omega) (by omega)]
  simp only [Option.bind_some]
  unfold doM at hst
  by_cases hfit : fits m.t.size e
  · rw [if_pos hfit] at hst ⊢
    simp only []
    rw [if_pos trivial]
    by_cases hlim : 4000 < (ap m.t e).size
    · rw [if_pos hlim] at hst
      injection hst with e1 e2
      subst e1 e2
      rw [if_pos (by omega)]
      exact ⟨L, d, rfl, h, by omega, by omega⟩
    · rw [if_neg hlim] at hst
      injection hst with e1 e2
      subst e1 e2
      rw [if_neg (by omega), if_pos (by omega), if_pos (by omega), Int.toNat_natCast]
      have hlt : (L.take d).length = d := by rw [List.length_take]; omega
      rw [if_pos (by rw [hlt]; simp; omega)]
      rw [if_pos (by rw [List.nil_append, hlt]; simp; omega), w64 (n := (d : Int) + 1) (by omega) (by omega), w64 (n := m.v + 1) (by omega) (by omega), List.nil_append]
      have htz := sz_take_le L d
      refine ⟨L.take d ++ [e], d + 1, by simp, ⟨by simp; omega, by simp; omega, by rw [sz_append]; simp only [sz]; omega, ?_, ?_, ?_⟩, by rw [sz_append]; simp only [sz]; omega, by simp; omega⟩
      · rw [List.take_of_length_le (by simp; omega), apAll_append, h.text]
        simp only [Option.bind_some, apAll]
        rw [if_pos hfit]
      · rw [List.take_of_length_le (by simp; omega), invList_append _ _ _ _ h.text, List.reverse_append]
        simp only [invList, List.reverse_cons, List.reverse_nil, List.nil_append, List.singleton_append]
        rw [h.un]
      · rw [List.drop_eq_nil_of_le (by simp; omega)]
  · rw [if_neg hfit] at hst ⊢
    injection hst with e1 e2
    subst e1 e2
    simp only []
    rw [if_neg (by decide)]
    exact ⟨L, d, rfl, h, by omega, by omega⟩
theorem run_sim {s0 : ByteArray} {m m' : M} {L : List S31} {d k : Nat} {x : S36} {a : S31} {er : Int} (h : Sim s0 m L d) (hg : Good s0 m) (hk : d < k) (hl : L.length < 40) (hv0 : 0 ≤ m.v) (hv1 : m.v ≤ 1000) (hz : s0.size + sz L + x.f1.f2.size ≤ 30000) (hx : 0 ≤ x.f0) (hst : stepM m x = (m', a, er)) :
    ∃ (L' : List S31) (d' : Nat), emendateref05_Run.f k s0 L d m.v x.f0 x.f1.f0 x.f1.f1 x.f1.f2 = some (s0, L', ((d' : Nat) : Int), m'.v, a.f0, a.f1, a.f2, er) ∧ Sim s0 m' L' d' ∧ sz L' ≤ sz L + x.f1.f2.size ∧ L'.length ≤ L.length + 1 := by
  unfold emendateref05_Run.f
  rw [Int.tmod_eq_emod_of_nonneg hx]
  unfold stepM at hst
  by_cases c1 : x.f0 % 3 = 1
  · rw [if_pos c1] at hst ⊢
    obtain ⟨d', h1, h2⟩ := undo_sim h hk hv0 hv1 hst
    rw [h1]
    exact ⟨L, d', rfl, h2, by omega, by omega⟩
  · rw [if_neg c1] at hst ⊢
    by_cases c2 : x.f0 % 3 = 2
    · rw [if_pos c2] at hst ⊢
      obtain ⟨d', h1, h2⟩ := redo_sim h hv0 hv1 hst (fun _ _ e => good_re hg e)
      rw [h1]
      exact ⟨L, d', rfl, h2, by omega, by omega⟩
    · rw [if_neg c2] at hst ⊢
      obtain ⟨m1, e1, hdo⟩ : ∃ m1 e1, doM m x.f1 = (m1, e1) := ⟨_, _, rfl⟩
      obtain ⟨L', d', h1, h2, h3, h4⟩ := do_sim h hk hl hv0 hv1 hz hdo
      have hsame := do_err_same (m := m) (e := x.f1)
      rw [hdo] at hst hsame
      rw [h1]
      simp only [Option.bind_some]
      dsimp only at hst
      by_cases c3 : e1 = 0
      · rw [if_pos c3] at hst ⊢
        injection hst with q1 q2
        injection q2 with q2 q3
        subst q1 q2 q3
        exact ⟨L', d', rfl, h2, h3, h4⟩
      · rw [if_neg c3] at hst ⊢
        have hm := hsame c3
        dsimp only at hm
        injection hst with q1 q2
        injection q2 with q2 q3
        subst q1 q2 q3
        subst hm
        exact ⟨L', d', rfl, h2, h3, h4⟩
end Go.Proofs.Ytnmgcghbfnpofaa.Hist
