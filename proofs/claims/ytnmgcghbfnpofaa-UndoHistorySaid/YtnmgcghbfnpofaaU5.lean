/- The history as a plain machine, and the calls of the laws' 'run' on it. -/
import Derived.Test.YtnmgcghbfnpofaaU4
namespace Go.Proofs.Ytnmgcghbfnpofaa.Hist
open Go.RowKit Go.Proofs.Ytnmgcghbfnpofaa.PAll Go.Proofs.YtnmgcghbfnpofaaW.PrintWords Go.Proofs.Ytnmgcghbfnpofaa.Open Go.Proofs.Ytnmgcghbfnpofaa.Plain
set_option linter.unusedVariables false

/-- A history: its text, its version, the inverses of the undoable edits (the next one first), the redoable edits (the next one first). -/
structure M where
  t : ByteArray
  v : Int
  un : List S31
  re : List S31
def HistM (base : Nat) (w : World) (g : Nat) (F : Nat → Prop) (m : M) : Prop := Hist base w g F m.t m.v m.un.reverse m.re.reverse
def ToM (base g : Nat) (F : Nat → Prop) (m : M) (w w' : World) : Prop := To base g F m.t m.v m.un.reverse m.re.reverse w w'
def doM (m : M) (e : S31) : M × Int := if fits m.t.size e then if 4000 < (ap m.t e).size then (m, 11) else (⟨ap m.t e, m.v + 1, inv m.t e :: m.un, []⟩, 0) else (m, 2)
def undoM (m : M) : M × S31 × Int := match m.un with
  | [] => (m, z31, 15)
  | x :: ys => (⟨ap m.t x, m.v + 1, ys, inv m.t x :: m.re⟩, x, 0)
def redoM (m : M) : M × S31 × Int := match m.re with
  | [] => (m, z31, 15)
  | x :: ys => (⟨ap m.t x, m.v + 1, inv m.t x :: m.un, ys⟩, x, 0)
def stepM (m : M) (x : S36) : M × S31 × Int :=
  if x.f0 % 3 = 1 then undoM m else if x.f0 % 3 = 2 then redoM m else if (doM m x.f1).2 = 0 then ((doM m x.f1).1, x.f1, 0) else (m, z31, (doM m x.f1).2)

/-- The edits on the stacks fit, one behind the other; undoing all leads to s0. -/
def Good (s0 : ByteArray) (m : M) : Prop := apAll m.t m.un = some s0 ∧ ∃ z, apAll m.t m.re = some z
/-- All the bytes that a history holds. -/
def wt (m : M) : Nat := m.t.size + sz m.un + sz m.re
/-- Small enough, at most n calls. -/
structure Small (n : Nat) (m : M) : Prop where
  hw : wt m ≤ 1000000
  h0 : 0 ≤ m.v
  h1 : m.v ≤ n
  h2 : m.un.length + m.re.length ≤ n

theorem good_un {s0 : ByteArray} {m : M} {x : S31} {ys : List S31} (h : Good s0 m) (e : m.un = x :: ys) : fits m.t.size x := by
  obtain ⟨h1, _⟩ := h
  rw [e] at h1
  simp only [apAll] at h1
  by_cases hf : fits m.t.size x
  · exact hf
  · rw [if_neg hf] at h1; cases h1
theorem good_re {s0 : ByteArray} {m : M} {x : S31} {ys : List S31} (h : Good s0 m) (e : m.re = x :: ys) : fits m.t.size x := by
  obtain ⟨_, z, h1⟩ := h
  rw [e] at h1
  simp only [apAll] at h1
  by_cases hf : fits m.t.size x
  · exact hf
  · rw [if_neg hf] at h1; cases h1
theorem good_push {t : ByteArray} {x : S31} (hf : fits t.size x) (l : List S31) : apAll (ap t x) (inv t x :: l) = apAll t l := by
  simp only [apAll, if_pos (inv_fits hf), ap_inv hf]
theorem good_do {s0 : ByteArray} {m : M} (e : S31) (h : Good s0 m) : Good s0 (doM m e).1 := by
  unfold doM
  split
  · rename_i hf
    split
    · exact h
    · exact ⟨(good_push hf _).trans h.1, _, rfl⟩
  · exact h
theorem good_undo {s0 : ByteArray} {m : M} (h : Good s0 m) : Good s0 (undoM m).1 := by
  unfold undoM
  split
  · exact h
  · rename_i x ys e
    have hf := good_un h e
    obtain ⟨h1, z, h2⟩ := h
    rw [e] at h1
    simp only [apAll, if_pos hf] at h1
    exact ⟨h1, z, (good_push hf _).trans h2⟩
theorem good_redo {s0 : ByteArray} {m : M} (h : Good s0 m) : Good s0 (redoM m).1 := by
  unfold redoM
  split
  · exact h
  · rename_i x ys e
    have hf := good_re h e
    obtain ⟨h1, z, h2⟩ := h
    rw [e] at h2
    simp only [apAll, if_pos hf] at h2
    exact ⟨(good_push hf _).trans h1, z, h2⟩
theorem good_step {s0 : ByteArray} {m : M} (x : S36) (h : Good s0 m) : Good s0 (stepM m x).1 := by
  unfold stepM
  split
  · exact good_undo h
  · split
    · exact good_redo h
    · split
      · exact good_do _ h
      · exact h
theorem wt_push {t : ByteArray} {x : S31} (hf : fits t.size x) : ((ap t x).size + (inv t x).f2.size : Nat) = t.size + x.f2.size := by
  have h1 := ap_size hf
  have h2 := inv_size hf
  omega
theorem wt_do (m : M) (e : S31) : wt (doM m e).1 ≤ wt m + e.f2.size := by
  unfold doM
  split
  · rename_i hf
    split
    · simp only [wt]; omega
    · have := wt_push hf
      simp only [wt, sz]; omega
  · simp only [wt]; omega
theorem wt_undo {s0 : ByteArray} {m : M} (h : Good s0 m) : wt (undoM m).1 = wt m := by
  unfold undoM
  split
  · rfl
  · rename_i x ys e
    have := wt_push (good_un h e)
    simp only [wt, sz, e]; omega
theorem wt_redo {s0 : ByteArray} {m : M} (h : Good s0 m) : wt (redoM m).1 = wt m := by
  unfold redoM
  split
  · rfl
  · rename_i x ys e
    have := wt_push (good_re h e)
    simp only [wt, sz, e]; omega
theorem wt_step {s0 : ByteArray} {m : M} (x : S36) (h : Good s0 m) : wt (stepM m x).1 ≤ wt m + x.f1.f2.size := by
  unfold stepM
  split
  · rw [wt_undo h]; omega
  · split
    · rw [wt_redo h]; omega
    · split
      · exact wt_do _ _
      · simp only [wt]; omega
theorem cnt_do (m : M) (e : S31) (n : Nat) (h0 : 0 ≤ m.v) (h1 : m.v ≤ n) (h2 : m.un.length + m.re.length ≤ n) : 0 ≤ (doM m e).1.v ∧ (doM m e).1.v ≤ ((n + 1 : Nat) : Int) ∧ (doM m e).1.un.length + (doM m e).1.re.length ≤ n + 1 := by
  unfold doM
  split
  · split
    · exact ⟨h0, (by dsimp only; omega), (by dsimp only; omega)⟩
    · simp only [List.length_cons, List.length_nil]; omega
  · exact ⟨h0, (by dsimp only; omega), (by dsimp only; omega)⟩
theorem cnt_undo (m : M) (n : Nat) (h0 : 0 ≤ m.v) (h1 : m.v ≤ n) (h2 : m.un.length + m.re.length ≤ n) : 0 ≤ (undoM m).1.v ∧ (undoM m).1.v ≤ ((n + 1 : Nat) : Int) ∧ (undoM m).1.un.length + (undoM m).1.re.length ≤ n + 1 := by
  unfold undoM
  split
  · exact ⟨h0, (by dsimp only; omega), (by dsimp only; omega)⟩
  · rename_i x ys e
    rw [e] at h2
    simp only [List.length_cons] at h2 ⊢
    omega
theorem cnt_redo (m : M) (n : Nat) (h0 : 0 ≤ m.v) (h1 : m.v ≤ n) (h2 : m.un.length + m.re.length ≤ n) : 0 ≤ (redoM m).1.v ∧ (redoM m).1.v ≤ ((n + 1 : Nat) : Int) ∧ (redoM m).1.un.length + (redoM m).1.re.length ≤ n + 1 := by
  unfold redoM
  split
  · exact ⟨h0, (by dsimp only; omega), (by dsimp only; omega)⟩
  · rename_i x ys e
    rw [e] at h2
    simp only [List.length_cons] at h2 ⊢
    omega
theorem cnt_step (m : M) (x : S36) (n : Nat) (h0 : 0 ≤ m.v) (h1 : m.v ≤ n) (h2 : m.un.length + m.re.length ≤ n) : 0 ≤ (stepM m x).1.v ∧ (stepM m x).1.v ≤ ((n + 1 : Nat) : Int) ∧ (stepM m x).1.un.length + (stepM m x).1.re.length ≤ n + 1 := by
  unfold stepM
  split
  · exact cnt_undo m n h0 h1 h2
  · split
    · exact cnt_redo m n h0 h1 h2
    · split
      · exact cnt_do m _ n h0 h1 h2
      · exact ⟨h0, (by dsimp only; omega), (by dsimp only; omega)⟩

/-! #### the calls, in the machine's words -/
theorem sz_le_un {m : M} {x : S31} {ys : List S31} (e : m.un = x :: ys) : x.f2.size ≤ wt m := by
  simp only [wt, e, sz]; omega
theorem sz_le_re {m : M} {x : S31} {ys : List S31} (e : m.re = x :: ys) : x.f2.size ≤ wt m := by
  simp only [wt, e, sz]; omega
theorem undo_call {base g n : Nat} {F : Nat → Prop} {s0 : ByteArray} {m : M} {w : World} (h : HistM base w g F m) (hg : Good s0 m) (hs : Small n m) (hn : n ≤ 100000) :
    Calls Try.prog 29 #[.pointer (some ⟨g, 0, none⟩)] w fun r w' => r = .returned (.tuple #[.agg #[.int .i64 (undoM m).2.1.f0, .int .i64 (undoM m).2.1.f1, .string (undoM m).2.1.f2], .int .i64 (undoM m).2.2]) ∧ ToM base g F (undoM m).1 w w' := by
  unfold undoM
  have hsw := hs.hw
  have hs0 := hs.h0
  have hs1 := hs.h1
  have hs2 := hs.h2
  split
  · rename_i e
    refine (Undo_none base g F m.t m.v m.un.reverse m.re.reverse w h (by rw [e]; rfl)).mono fun r w' hr => ?_
    exact ⟨hr.1, To.of_below h hr.2⟩
  · rename_i x ys e
    have hx := sz_le_un e
    unfold wt at hsw hx
    unfold HistM at h
    rw [e] at h hs2
    simp only [List.length_cons] at hs2
    rw [List.reverse_cons] at h
    refine (Undo_some base g F m.t m.v m.re.reverse ys.reverse x w h (good_un hg e) (by omega) (by omega) hs0 (by omega) (by simp; omega) (by simp; omega)).mono fun r w' hr => ?_
    refine ⟨hr.1, ?_⟩
    have := hr.2
    rw [← List.reverse_cons] at this
    exact this
theorem redo_call {base g n : Nat} {F : Nat → Prop} {s0 : ByteArray} {m : M} {w : World} (h : HistM base w g F m) (hg : Good s0 m) (hs : Small n m) (hn : n ≤ 100000) :
    Calls Try.prog 30 #[.pointer (some ⟨g, 0, none⟩)] w fun r w' => r = .returned (.tuple #[.agg #[.int .i64 (redoM m).2.1.f0, .int .i64 (redoM m).2.1.f1, .string (redoM m).2.1.f2], .int .i64 (redoM m).2.2]) ∧ ToM base g F (redoM m).1 w w' := by
  unfold redoM
  have hsw := hs.hw
  have hs0 := hs.h0
  have hs1 := hs.h1
  have hs2 := hs.h2
  split
  · rename_i e
    refine (Redo_none base g F m.t m.v m.un.reverse m.re.reverse w h (by rw [e]; rfl)).mono fun r w' hr => ?_
    exact ⟨hr.1, To.of_below h hr.2⟩
  · rename_i x ys e
    have hx := sz_le_re e
    unfold wt at hsw hx
    unfold HistM at h
    rw [e] at h hs2
    simp only [List.length_cons] at hs2
    rw [List.reverse_cons] at h
    refine (Redo_some base g F m.t m.v m.un.reverse ys.reverse x w h (good_re hg e) (by omega) (by omega) hs0 (by omega) (by simp; omega) (by simp; omega)).mono fun r w' hr => ?_
    refine ⟨hr.1, ?_⟩
    have := hr.2
    rw [← List.reverse_cons] at this
    exact this
theorem do_call {base g n : Nat} {F : Nat → Prop} {m : M} {w : World} (e : S31) (h : HistM base w g F m) (hs : Small n m) (hn : n ≤ 100000) (he : e.f2.size ≤ 1099511627776) :
    Calls Try.prog 28 #[.pointer (some ⟨g, 0, none⟩), .agg #[.int .i64 e.f0, .int .i64 e.f1, .string e.f2]] w fun r w' => r = .returned (.int .i64 (doM m e).2) ∧ ToM base g F (doM m e).1 w w' := by
  unfold doM
  have hsw := hs.hw
  have hs0 := hs.h0
  have hs1 := hs.h1
  have hs2 := hs.h2
  unfold wt at hsw
  have h' := h
  obtain ⟨vu, vr, hb, _⟩ := h'
  by_cases hf : fits m.t.size e
  · rw [if_pos hf]
    by_cases hl : 4000 < (ap m.t e).size
    · rw [if_pos hl]
      exact (do_limit g m.t _ e w hb rfl hf hl (by omega) he).mono fun r w' hr => ⟨hr.1, To.of_below h hr.2⟩
    · rw [if_neg hl]
      refine (do_ok base g F m.t m.v m.un.reverse m.re.reverse e w h hf (by omega) (by omega) he hs0 (by omega) (by simp; omega)).mono fun r w' hr => ⟨hr.1, ?_⟩
      have := hr.2
      rw [← List.reverse_cons] at this
      exact this
  · rw [if_neg hf]
    exact (do_not g m.t _ e w hb rfl hf (by omega) he).mono fun r w' hr => ⟨hr.1, To.of_below h hr.2⟩
end Go.Proofs.Ytnmgcghbfnpofaa.Hist
