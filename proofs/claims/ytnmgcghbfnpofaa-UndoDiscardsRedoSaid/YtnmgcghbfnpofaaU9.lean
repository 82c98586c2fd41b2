/- Two histories side by side, and what undone Dos leave. -/
import Derived.Test.YtnmgcghbfnpofaaV4
import Derived.Test.YtnmgcghbfnpofaaV8
namespace Go.Proofs.Ytnmgcghbfnpofaa.Hist
open Go.RowKit Go.Proofs.Ytnmgcghbfnpofaa.PAll Go.Proofs.YtnmgcghbfnpofaaW.PrintWords Go.Proofs.Ytnmgcghbfnpofaa.Open Go.Proofs.Ytnmgcghbfnpofaa.Plain
set_option linter.unusedVariables false

/-- A history that another's call left alone. -/
theorem St.other {w0 w w' : World} {g : Nat} {F G : Nat → Prop} {m : M} (h : St w0 w g G m) (hd : Did w w' F) (hdis : ∀ k, G k → ¬ F k) (hb : Below w0.heap.size w0 w') : St w0 w' g G m :=
  ⟨Hist.keep h.hist (fun k hk => hd.block (h.hist.lt k hk).2 (hdis k hk)) hd.size, hb⟩
/-- Two histories and a block, none of which touches another. -/
structure Two (w0 w : World) (h : Nat) (F : Nat → Prop) (m : M) (g : Nat) (G : Nat → Prop) (n : M) (p : Nat) (o : Obj) : Prop where
  sh : St w0 w h F m
  sg : St w0 w g G n
  dis : ∀ k, F k → ¬ G k
  kf : Kp w F p o
  kg : ¬ G p
theorem Two.below {w0 w w' : World} {h : Nat} {F : Nat → Prop} {m : M} {g : Nat} {G : Nat → Prop} {n : M} {p : Nat} {o : Obj} (t : Two w0 w h F m g G n p o) (hb : Below w.heap.size w w') : Two w0 w' h F m g G n p o :=
  ⟨t.sh.below hb, t.sg.below hb, t.dis, t.kf.below hb, t.kg⟩
theorem Two.left {w0 w w' : World} {h : Nat} {F F' : Nat → Prop} {m m' : M} {g : Nat} {G : Nat → Prop} {n : M} {p : Nat} {o : Obj} (t : Two w0 w h F m g G n p o) (hs : St w0 w' h F' m') (hf : ∀ k, F' k → F k ∨ w.heap.size ≤ k) (hd : Did w w' F) : Two w0 w' h F' m' g G n p o :=
  ⟨hs, t.sg.other hd (fun k hk hk' => t.dis k hk' hk) hs.bel, fun k hk hg => (hf k hk).elim (fun h' => t.dis k h' hg) (fun h' => by have := (t.sg.hist.lt k hg).2; omega), t.kf.call hf hd, t.kg⟩
theorem Two.right {w0 w w' : World} {h : Nat} {F : Nat → Prop} {m : M} {g : Nat} {G G' : Nat → Prop} {n n' : M} {p : Nat} {o : Obj} (t : Two w0 w h F m g G n p o) (hs : St w0 w' g G' n') (hf : ∀ k, G' k → G k ∨ w.heap.size ≤ k) (hd : Did w w' G) : Two w0 w' h F m g G' n' p o :=
  ⟨t.sh.other hd (fun k hk hk' => t.dis k hk hk') hs.bel, hs, fun k hk hg => (hf k hg).elim (t.dis k hk) (fun h' => by have := (t.sh.hist.lt k hk).2; omega), ⟨(hd.block (blk_lt t.kf.blk) t.kg).trans t.kf.blk, t.kf.out⟩, fun hk => (hf p hk).elim t.kg (fun h' => by have := blk_lt t.kf.blk; omega)⟩
theorem Two.start {w0 w1 w2 : World} {h g : Nat} {F G : Nat → Prop} {m n : M} {p : Nat} {o : Obj} (sh : St w0 w1 h F m) (k : Kp w1 F p o) (sg : St w0 w2 g G n) (hG : ∀ k, G k → w1.heap.size ≤ k) (hb : Below w1.heap.size w1 w2) : Two w0 w2 h F m g G n p o :=
  ⟨sh.below hb, sg, fun k hk hg => by have := (sh.hist.lt k hk).2; have := hG k hg; omega, k.below hb, fun hk => by have := blk_lt k.blk; have := hG p hk; omega⟩

/-- The machine behind the first i Dos. -/
def dos (m : M) : List S36 → M
  | [] => m
  | x :: l => dos (doM m x.f1).1 l
theorem dos_succ (m : M) (l : List S36) (i : Nat) (h : i < l.length) : dos m (l.take (i + 1)) = (doM (dos m (l.take i)) l[i].f1).1 := by
  induction l generalizing m i with
  | nil => exact absurd h (by simp)
  | cons x r ih =>
    cases i with
    | zero => simp [dos]
    | succ i =>
      rw [List.take_succ_cons, List.take_succ_cons]
      simp only [dos, List.getElem_cons_succ]
      exact ih _ i (by simpa using h)
structure Gd (s : ByteArray) (l : List S36) (i : Nat) (m : M) : Prop where
  gd : Good s m
  sm : Small i m
  wb : wt m + szS (l.drop i) ≤ 20000
theorem gd_start {s : ByteArray} {l : List S36} (hf : FewS s l) : Gd s l 0 ⟨s, 0, [], []⟩ :=
  ⟨⟨rfl, _, rfl⟩, ⟨by simp only [wt, sz]; have := hf.2; omega, Int.le_refl _, Int.le_refl _, Nat.le_refl _⟩, by simp only [wt, sz, List.drop_zero]; have := hf.2; omega⟩
theorem gd_do {s : ByteArray} {l : List S36} {i : Nat} {m : M} (h : Gd s l i m) (hi : i < l.length) : Gd s l (i + 1) (doM m l[i].f1).1 := by
  have hd : l.drop i = l[i] :: l.drop (i + 1) := List.drop_eq_getElem_cons hi
  have hw := h.wb
  rw [hd] at hw
  simp only [szS] at hw
  have h1 := wt_do m l[i].f1
  exact ⟨good_do _ h.gd, small_do h.sm _ (by omega), by omega⟩

/-- Undo until k edits are left. -/
def back (m : M) (k : Nat) : Option ByteArray := apAll m.t (m.un.take (m.un.length - k))
theorem back_do {m : M} (e : S31) {k : Nat} (hk : k ≤ m.un.length) : k ≤ (doM m e).1.un.length ∧ back (doM m e).1 k = back m k := by
  unfold doM
  by_cases hf : fits m.t.size e
  · rw [if_pos hf]
    by_cases hl : 4000 < (ap m.t e).size
    · rw [if_pos hl]; exact ⟨hk, rfl⟩
    · rw [if_neg hl]
      refine ⟨by dsimp only; rw [List.length_cons]; omega, ?_⟩
      unfold back
      dsimp only
      rw [List.length_cons, show m.un.length + 1 - k = (m.un.length - k) + 1 by omega, List.take_succ_cons]
      simp only [apAll]
      rw [if_pos (inv_fits hf), ap_inv hf]
  · rw [if_neg hf]; exact ⟨hk, rfl⟩
theorem back_self (m : M) : back m m.un.length = some m.t := by
  unfold back
  rw [Nat.sub_self, List.take_zero]; rfl
theorem back_dos (l : List S36) (m : M) {k : Nat} (hk : k ≤ m.un.length) : k ≤ (dos m l).un.length ∧ back (dos m l) k = back m k := by
  induction l generalizing m with
  | nil => exact ⟨hk, rfl⟩
  | cons x r ih =>
    obtain ⟨h1, h2⟩ := back_do x.f1 hk
    obtain ⟨h3, h4⟩ := ih _ h1
    exact ⟨h3, h4.trans h2⟩
theorem dos_append (m : M) (a b : List S36) : dos m (a ++ b) = dos (dos m a) b := by
  induction a generalizing m with
  | nil => rfl
  | cons x r ih => exact ih _
/-- The first Dos and the undone Dos have the same text, where they have done the same number. -/
theorem back_take (m : M) (l : List S36) (i : Nat) : back (dos m l) (dos m (l.take i)).un.length = some (dos m (l.take i)).t := by
  have h : dos m l = dos (dos m (l.take i)) (l.drop i) := by rw [← dos_append, List.take_append_drop]
  rw [h, (back_dos _ _ (Nat.le_refl _)).2, back_self]
theorem undo_back {s : ByteArray} {m : M} (hg : Good s m) (h0 : 0 < m.un.length) : ∃ m1 a, undoM m = (m1, a, 0) ∧ m1.un.length + 1 = m.un.length ∧ ∀ k, k ≤ m1.un.length → back m1 k = back m k := by
  obtain ⟨t, v, un, re⟩ := m
  cases un with
  | nil => exact absurd h0 (by simp)
  | cons x ys =>
    refine ⟨⟨ap t x, v + 1, ys, inv t x :: re⟩, x, rfl, rfl, fun k hk => ?_⟩
    obtain ⟨h1, -⟩ := hg
    simp only [apAll] at h1
    unfold back
    dsimp only at hk ⊢
    rw [List.length_cons, show ys.length + 1 - k = (ys.length - k) + 1 by omega, List.take_succ_cons]
    simp only [apAll]
    by_cases hf : fits t.size x
    · rw [if_pos hf]
    · rw [if_neg hf] at h1; exact absurd h1 (by simp)
/-- Do with an edit: the error and the text hang on the text alone. -/
theorem do_same {m n : M} (h : m.t = n.t) (e : S31) : (doM m e).2 = (doM n e).2 ∧ ((doM m e).2 = 0 → (doM m e).1.t = (doM n e).1.t ∧ (doM m e).1.re = []) := by
  obtain ⟨t, v, un, re⟩ := m
  obtain ⟨t', v', un', re'⟩ := n
  dsimp only at h
  subst h
  unfold doM
  dsimp only
  by_cases hf : fits t.size e
  · rw [if_pos hf, if_pos hf]
    by_cases hl : 4000 < (ap t e).size
    · rw [if_pos hl, if_pos hl]; exact ⟨rfl, fun h => absurd h (by dsimp only; decide)⟩
    · rw [if_neg hl, if_neg hl]; exact ⟨rfl, fun _ => ⟨rfl, rfl⟩⟩
  · rw [if_neg hf, if_neg hf]; exact ⟨rfl, fun h => absurd h (by dsimp only; decide)⟩
theorem do_len (m : M) (e : S31) : ((doM m e).2 = 0 → (doM m e).1.un.length = m.un.length + 1) ∧ ((doM m e).2 ≠ 0 → (doM m e).1.un.length = m.un.length) := by
  unfold doM
  by_cases hf : fits m.t.size e
  · rw [if_pos hf]
    by_cases hl : 4000 < (ap m.t e).size
    · rw [if_pos hl]; exact ⟨fun h => absurd h (by dsimp only; decide), fun _ => rfl⟩
    · rw [if_neg hl]; exact ⟨fun _ => rfl, fun h => absurd rfl h⟩
  · rw [if_neg hf]; exact ⟨fun h => absurd h (by dsimp only; decide), fun _ => rfl⟩
theorem redo_nil {m : M} (h : m.re = []) : redoM m = (m, z31, 15) := by
  unfold redoM
  rw [h]
/-- Depth of either history. -/
theorem depth_two {w0 w : World} {g : Nat} {F : Nat → Prop} {m : M} (h : St w0 w g F m) (d : Int) (hd : (m.un.length : Int) = d) : Calls Try.prog 23 #[.pointer (some ⟨g, 0, none⟩)] w fun r w' => ∃ q : Int, r = .returned (.tuple #[.int .i64 d, .int .i64 q]) ∧ Below w.heap.size w w' := by
  subst hd
  exact (depth_st h).mono fun r w' hr => ⟨_, hr.1, hr.2⟩
end Go.Proofs.Ytnmgcghbfnpofaa.Hist
