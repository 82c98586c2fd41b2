/- Compose: the hull of the changed ranges, step by step, and what Compose comes to. -/
import Derived.Test.YtnmgcghbfnpofaaQ1
import Derived.Test.YtnmgcghbfnpofaaA36
namespace Go.Proofs.Ytnmgcghbfnpofaa.Plain
open Go.RowKit Go.Proofs.Ytnmgcghbfnpofaa.PAll Go.Proofs.YtnmgcghbfnpofaaW.PrintWords Go.Proofs.Ytnmgcghbfnpofaa.Open
set_option linter.unusedVariables false

/-- A hull: its start, its end in the first text, its end in the last one. -/
structure Hul where
  f : Int
  o : Int
  n : Int
def hstep (h : Hul) (e : S31) : Hul :=
  ⟨if e.f0 < h.f then e.f0 else h.f, if e.f0 + e.f1 - h.n > 0 then h.o + (e.f0 + e.f1 - h.n) else h.o, (if e.f0 + e.f1 - h.n > 0 then e.f0 + e.f1 else h.n) + (e.f2.size - e.f1)⟩
/-- What a hull says: before it, and behind it, the two texts are alike. -/
structure Hull (s t : ByteArray) (h : Hul) : Prop where
  h0 : 0 ≤ h.f
  h1 : h.f ≤ h.o
  h2 : h.f ≤ h.n
  h3 : h.o ≤ s.size
  h4 : h.n ≤ t.size
  h5 : (s.size : Int) - h.o = t.size - h.n
  h6 : (L s).take h.f.toNat = (L t).take h.f.toNat
  h7 : (L s).drop h.o.toNat = (L t).drop h.n.toNat
theorem hull_start (s : ByteArray) (a : Int) (h0 : 0 ≤ a) (h1 : a ≤ s.size) : Hull s s ⟨a, a, a⟩ := ⟨h0, Int.le_refl _, Int.le_refl _, h1, h1, rfl, rfl, rfl⟩
theorem hull_step {s t : ByteArray} {h : Hul} {e : S31} (H : Hull s t h) (hf : fits t.size e) : Hull s (ap t e) (hstep h e) := by
  obtain ⟨h0, h1, h2, h3, h4, h5, h6, h7⟩ := H
  have hz := ap_size hf
  unfold fits at hf
  obtain ⟨a0, a1, a2⟩ := hf
  have hlt := L_length t
  have hta : ((L t).take e.f0.toNat).length = e.f0.toNat := by rw [List.length_take]; omega
  have hmid : (List.take e.f0.toNat (L t) ++ L e.f2).length = e.f0.toNat + e.f2.size := by rw [List.length_append, hta, L_length]
  have htake : ∀ g : Int, 0 ≤ g → g ≤ e.f0 → g ≤ h.f → (L s).take g.toNat = (L (ap t e)).take g.toNat := by
    intro g g0 g1 g2
    have e1 : (L s).take g.toNat = ((L s).take h.f.toNat).take g.toNat := by rw [List.take_take, Nat.min_eq_left (by omega)]
    rw [e1, h6, List.take_take, Nat.min_eq_left (by omega), L_ap, List.append_assoc, List.take_append_of_le_length (by omega), List.take_take, Nat.min_eq_left (by omega)]
  have hdrop : ∀ m : Nat, (e.f0 + e.f1).toNat ≤ m → (L (ap t e)).drop (m + e.f2.size - e.f1.toNat) = (L t).drop m := by
    intro m hm
    rw [L_ap, show m + e.f2.size - e.f1.toNat = (List.take e.f0.toNat (L t) ++ L e.f2).length + (m - (e.f0 + e.f1).toNat) from by rw [hmid]; omega, ← List.drop_drop, List.drop_left, List.drop_drop]
    congr 1; omega
  unfold hstep
  by_cases c : e.f0 + e.f1 - h.n > 0
  · simp only [if_pos c]
    have k7 : (L s).drop (h.o + (e.f0 + e.f1 - h.n)).toNat = (L (ap t e)).drop (e.f0 + e.f1 + (e.f2.size - e.f1)).toNat := by
      have e1 : (h.o + (e.f0 + e.f1 - h.n)).toNat = h.o.toNat + (e.f0 + e.f1 - h.n).toNat := by omega
      rw [e1, ← List.drop_drop, h7, List.drop_drop]
      have := hdrop (e.f0 + e.f1).toNat (Nat.le_refl _)
      rw [show (e.f0 + e.f1 + (e.f2.size - e.f1)).toNat = (e.f0 + e.f1).toNat + e.f2.size - e.f1.toNat from by omega, this]
      congr 1; omega
    by_cases d : e.f0 < h.f
    · simp only [if_pos d]
      exact ⟨by dsimp only; omega, by dsimp only; omega, by dsimp only; omega, by dsimp only; omega, by dsimp only; omega, by dsimp only; omega, htake _ (by dsimp only; omega) (by dsimp only; omega) (by dsimp only; omega), k7⟩
    · simp only [if_neg d]
      exact ⟨by dsimp only; omega, by dsimp only; omega, by dsimp only; omega, by dsimp only; omega, by dsimp only; omega, by dsimp only; omega, htake _ (by dsimp only; omega) (by dsimp only; omega) (by dsimp only; omega), k7⟩
  · simp only [if_neg c]
    have k7 : (L s).drop h.o.toNat = (L (ap t e)).drop (h.n + (e.f2.size - e.f1)).toNat := by
      rw [h7, ← hdrop h.n.toNat (by omega)]
      congr 1; omega
    by_cases d : e.f0 < h.f
    · simp only [if_pos d]
      exact ⟨by dsimp only; omega, by dsimp only; omega, by dsimp only; omega, by dsimp only; omega, by dsimp only; omega, by dsimp only; omega, htake _ (by dsimp only; omega) (by dsimp only; omega) (by dsimp only; omega), k7⟩
    · simp only [if_neg d]
      exact ⟨by dsimp only; omega, by dsimp only; omega, by dsimp only; omega, by dsimp only; omega, by dsimp only; omega, by dsimp only; omega, htake _ (by dsimp only; omega) (by dsimp only; omega) (by dsimp only; omega), k7⟩
theorem hull_all {s t u : ByteArray} {h : Hul} {l : List S31} (H : Hull s t h) (ha : apAll t l = some u) : Hull s u (l.foldl hstep h) := by
  induction l generalizing t h with
  | nil => simp [apAll] at ha; subst ha; exact H
  | cons e l ih =>
    simp only [apAll] at ha
    by_cases hf : fits t.size e
    · rw [if_pos hf] at ha
      exact ih (hull_step H hf) ha
    · rw [if_neg hf] at ha; cases ha

theorem with_eq {s t : ByteArray} {h : Hul} {e : S31} (H : Hull s t h) (hf : fits t.size e) (hs : s.size ≤ 1099511627776) (ht : t.size ≤ 1099511627776) (he : e.f2.size ≤ 1099511627776) :
    textedit_hull_with.f h.f h.o h.n e.f0 e.f1 e.f2 = some ((hstep h e).f, (hstep h e).o, (hstep h e).n) := by
  obtain ⟨h0, h1, h2, h3, h4, h5, h6, h7⟩ := H
  clear h6 h7
  unfold fits at hf
  obtain ⟨a0, a1, a2⟩ := hf
  unfold textedit_hull_with.f hstep
  rw [w64 (n := e.f0 + e.f1) (by omega) (by omega), w64 (n := e.f0 + e.f1 - h.n) (by omega) (by omega), w64 (n := h.o + (e.f0 + e.f1 - h.n)) (by omega) (by omega), w64 (n := h.n + (e.f0 + e.f1 - h.n)) (by omega) (by omega), w64 (n := (e.f2.size : Int) - e.f1) (by omega) (by omega), w64 (n := h.n + (e.f0 + e.f1 - h.n) + ((e.f2.size : Int) - e.f1)) (by omega) (by omega), w64 (n := h.n + ((e.f2.size : Int) - e.f1)) (by omega) (by omega)]
  by_cases c : e.f0 < h.f <;> by_cases d : e.f0 + e.f1 - h.n > 0
  · rw [if_pos c, if_pos d, if_pos c, if_pos d, if_pos d, show h.n + (e.f0 + e.f1 - h.n) = e.f0 + e.f1 from by omega]
  · rw [if_pos c, if_neg d, if_pos c, if_neg d, if_neg d]
  · rw [if_neg c, if_pos d, if_neg c, if_pos d, if_pos d, show h.n + (e.f0 + e.f1 - h.n) = e.f0 + e.f1 from by omega]
  · rw [if_neg c, if_neg d, if_neg c, if_neg d, if_neg d]

/-- The composed edit out of the last text and the hull. -/
def fin (t : ByteArray) (h : Hul) : Int × Int × ByteArray × Int := (h.f, h.o - h.f, t.extract h.f.toNat h.n.toNat, 0)
/-- What Compose comes to. -/
def comp (s : ByteArray) : List S31 → Int × Int × ByteArray × Int
  | [] => (0, 0, ⟨#[]⟩, 0)
  | e :: r => match apAll s (e :: r) with
    | some t => fin t ((e :: r).foldl hstep ⟨e.f0, e.f0, e.f0⟩)
    | none => (0, 0, ⟨#[]⟩, 2)

theorem compose_l0 (s t : ByteArray) (hs : s.size ≤ 1099511627776) (r : List S31) (hr : r.length ≤ 1000) (d : Nat) : ∀ (k : Nat) (u : ByteArray) (h : Hul) (i : Nat), i + d = r.length → d < k → u.size + sz (r.drop i) ≤ 1099511627776 →
    Hull s u h → apAll u (r.drop i) = some t → textedit_Compose.l0 k t r r.length i h.f h.o h.n = some (fin t ((r.drop i).foldl hstep h)) := by
  induction d with
  | zero =>
    intro k u h i hi hk hsz H ha
    obtain ⟨k, rfl⟩ : ∃ m, k = m + 1 := ⟨k - 1, by omega⟩
    rw [List.drop_of_length_le (by omega)] at ha ⊢
    simp only [apAll, Option.some.injEq] at ha
    subst ha
    obtain ⟨h0, h1, h2, h3, h4, h5, h6, h7⟩ := H
    simp only [textedit_Compose.l0, List.foldl_nil, fin]
    rw [if_neg (by omega), if_pos h0, if_pos h2, if_pos h4, w64 (by omega) (by omega)]
  | succ d ih =>
    intro k u h i hi hk hsz H ha
    obtain ⟨k, rfl⟩ : ∃ m, k = m + 1 := ⟨k - 1, by omega⟩
    have hlt : i < r.length := by omega
    have hd : r.drop i = r[i] :: r.drop (i + 1) := List.drop_eq_getElem_cons hlt
    rw [hd] at hsz ha ⊢
    simp only [sz] at hsz
    simp only [apAll] at ha
    by_cases hf : fits u.size r[i]
    · rw [if_pos hf] at ha
      have hap := ap_size_le hf
      simp only [textedit_Compose.l0]
      rw [if_pos (by omega), if_pos (by omega), if_pos (by omega), rd_eq hlt, with_eq H hf hs (by omega) (by omega)]
      simp only [Option.bind_some, List.foldl_cons]
      rw [w64 (by omega) (by omega)]
      exact ih k (ap u r[i]) _ (i + 1) (by omega) (by omega) (by omega) (hull_step H hf) ha
    · rw [if_neg hf] at ha; cases ha
theorem compose_eq (k : Nat) (s : ByteArray) (l : List S31) (hl : l.length ≤ 1000) (hk : l.length + 2 < k) (hs : s.size + sz l ≤ 1099511627776) :
    textedit_Compose.f k s l = some (comp s l) := by
  obtain ⟨k, rfl⟩ : ∃ m, k = m + 1 := ⟨k - 1, by omega⟩
  unfold textedit_Compose.f
  rw [applyAll_eq _ _ _ hl (by omega) hs]
  simp only [Option.bind_some]
  cases l with
  | nil => simp [apAll, res, comp, textedit_Compose.j0]
  | cons e r =>
    simp only [comp]
    cases ha : apAll s (e :: r) with
    | none => simp [res, textedit_Compose.j0]
    | some t =>
      have ha' := ha
      simp only [apAll] at ha'
      by_cases hf : fits s.size e
      · rw [if_pos hf] at ha'
        have hap := ap_size_le hf
        have hf' := hf
        unfold fits at hf'
        obtain ⟨a0, a1, a2⟩ := hf'
        simp only [sz] at hs
        simp only [List.length_cons] at hl hk
        have H := hull_step (hull_start s e.f0 a0 (by omega)) hf
        have hr0 : rd_T31 (e :: r) 0 = e := rfl
        have hb : (((e :: r).length : Int) == 0) = false := beq_eq_false_iff_ne.2 (by simp; omega)
        simp only [res]
        rw [if_pos trivial, hb]
        simp only [textedit_Compose.j0, hr0, List.length_cons]
        rw [if_neg (by simp), if_pos (by omega), if_pos (by omega)]
        simp only [Option.bind_some, List.drop_one, List.tail_cons, List.foldl_cons]
        have e1 : (hstep ⟨e.f0, e.f0, e.f0⟩ e) = ⟨e.f0, wrap64 (e.f0 + e.f1), wrap64 (e.f0 + e.f2.size)⟩ := by
          unfold hstep
          rw [w64 (n := e.f0 + e.f1) (by omega) (by omega), w64 (n := e.f0 + e.f2.size) (by omega) (by omega)]
          simp only [Int.lt_irrefl, if_false, Hul.mk.injEq, true_and]
          by_cases c : e.f0 + e.f1 - e.f0 > 0
          · rw [if_pos c, if_pos c]; omega
          · rw [if_neg c, if_neg c]; omega
        have := compose_l0 s t (by omega) r (by omega) r.length k (ap s e) _ 0 (by omega) (by omega) (by simp; omega) H (by simpa using ha')
        rw [e1] at this ⊢
        simpa using this
      · rw [if_neg hf] at ha'; cases ha'
/-- The composed edit leads from the first text to the last. -/
theorem fin_fits {s t : ByteArray} {h : Hul} (H : Hull s t h) : fits s.size ⟨(fin t h).1, (fin t h).2.1, (fin t h).2.2.1⟩ := by
  obtain ⟨h0, h1, h2, h3, h4, h5, h6, h7⟩ := H
  unfold fits fin
  simp only
  omega
theorem fin_ap {s t : ByteArray} {h : Hul} (H : Hull s t h) : ap s ⟨(fin t h).1, (fin t h).2.1, (fin t h).2.2.1⟩ = t := by
  obtain ⟨h0, h1, h2, h3, h4, h5, h6, h7⟩ := H
  apply L_inj
  rw [L_ap]
  simp only [fin]
  rw [L_extract, h6, show (h.f + (h.o - h.f)).toNat = h.o.toNat from by omega, h7]
  have e3 : List.take h.f.toNat (L t) ++ List.drop h.f.toNat (List.take h.n.toNat (L t)) = List.take h.n.toNat (L t) := by
    have : List.take h.f.toNat (L t) = List.take h.f.toNat (List.take h.n.toNat (L t)) := by
      rw [List.take_take, Nat.min_eq_left (by omega)]
    rw [this, List.take_append_drop]
  rw [e3, List.take_append_drop]
theorem comp_hull {s t : ByteArray} {e : S31} {r : List S31} (ha : apAll s (e :: r) = some t) : Hull s t ((e :: r).foldl hstep ⟨e.f0, e.f0, e.f0⟩) := by
  refine hull_all (t := s) ?_ ha
  simp only [apAll] at ha
  by_cases hf : fits s.size e
  · unfold fits at hf
    exact hull_start s _ (by omega) (by omega)
  · rw [if_neg hf] at ha; cases ha
end Go.Proofs.Ytnmgcghbfnpofaa.Plain
