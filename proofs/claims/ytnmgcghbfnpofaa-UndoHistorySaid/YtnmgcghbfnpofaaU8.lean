/- What the undo laws share: the guard on sizes, and what holds of the history after i calls. -/
import Derived.Test.YtnmgcghbfnpofaaU7
import Derived.Test.YtnmgcghbfnpofaaA19
namespace Go.Proofs.Ytnmgcghbfnpofaa.Hist
open Go.RowKit Go.Proofs.Ytnmgcghbfnpofaa.PAll Go.Proofs.YtnmgcghbfnpofaaW.PrintWords Go.Proofs.Ytnmgcghbfnpofaa.Open Go.Proofs.Ytnmgcghbfnpofaa.Plain
set_option linter.unusedVariables false

/-! #### the guard -/
def szS : List S36 → Nat
  | [] => 0
  | x :: l => x.f1.f2.size + szS l
theorem rd36 {l : List S36} {i : Nat} (h : i < l.length) : rd_T36 l (i : Int) = l[i] := by
  unfold rd_T36
  rw [Int.toNat_natCast, List.getD_eq_getElem?_getD, List.getElem?_eq_getElem h]; rfl
def FewS (s : ByteArray) (l : List S36) : Prop := l.length ≤ 30 ∧ s.size + szS l ≤ 20000
instance (s : ByteArray) (l : List S36) : Decidable (FewS s l) := by unfold FewS; infer_instance
theorem few05_l0 (l : List S36) (ho : ∀ x ∈ l, OkS x) (hy : l.length * 40 ≤ 140737488351232) (d : Nat) : ∀ (k : Nat) (n : Int) (i : Nat), i + d = l.length → d < k →
    ∃ n' : Int, emendateref05_Few.l0 k l n i = some (decide (l.length ≤ 30 ∧ n' ≤ 20000)) ∧ (l.length ≤ 30 → 0 ≤ n → n ≤ (i + 1) * 140737488351232 → n' = n + szS (l.drop i)) := by
  induction d with
  | zero =>
    intro k n i hi hk
    obtain ⟨k, rfl⟩ : ∃ m, k = m + 1 := ⟨k - 1, by omega⟩
    refine ⟨n, ?_, fun _ _ _ => by rw [List.drop_of_length_le (by omega)]; simp [szS]⟩
    simp only [emendateref05_Few.l0]
    rw [if_neg (by omega)]
    by_cases h : (l.length : Int) ≤ 30
    · rw [if_pos h]
      congr 1
      rw [decide_eq_decide]; omega
    · rw [if_neg h, decide_eq_false]; omega
  | succ d ih =>
    intro k n i hi hk
    obtain ⟨k, rfl⟩ : ∃ m, k = m + 1 := ⟨k - 1, by omega⟩
    have hlt : i < l.length := by omega
    have hd : l.drop i = l[i] :: l.drop (i + 1) := List.drop_eq_getElem_cons hlt
    have hb := (ho l[i] (List.getElem_mem hlt)).2.2.2
    obtain ⟨n', h1, h2⟩ := ih k (wrap64 (n + l[i].f1.f2.size)) (i + 1) (by omega) (by omega)
    refine ⟨n', ?_, fun q1 q2 q3 => ?_⟩
    · simp only [emendateref05_Few.l0]
      rw [if_pos (by omega), if_pos (by omega), rd36 hlt, w64 (n := (i : Int) + 1) (by omega) (by omega)]
      exact h1
    · have e : wrap64 (n + l[i].f1.f2.size) = n + l[i].f1.f2.size := w64 (by omega) (by omega)
      rw [e] at h2
      rw [h2 q1 (by omega) (by omega), hd]
      simp only [szS]; omega
theorem few05_eq (s : ByteArray) (l : List S36) (hs : s.size ≤ 140737488351232) (ho : ∀ x ∈ l, OkS x) (hy : l.length * 40 ≤ 140737488351232) : emendateref05_Few.f (l.length + 1) s l = some (decide (FewS s l)) := by
  obtain ⟨n', h1, h2⟩ := few05_l0 l ho hy l.length (l.length + 1) s.size 0 (by omega) (by omega)
  unfold emendateref05_Few.f
  rw [show (0 : Int) = ((0 : Nat) : Int) from rfl, h1]
  congr 1
  rw [decide_eq_decide]
  unfold FewS
  constructor
  · rintro ⟨q1, q2⟩
    have := h2 q1 (by omega) (by omega)
    rw [List.drop_zero] at this
    omega
  · rintro ⟨q1, q2⟩
    have := h2 q1 (by omega) (by omega)
    rw [List.drop_zero] at this
    omega
theorem drawn_below {w w' : World} (h : Drawn0 w w') : Below w.heap.size w w' := h.below
theorem few_call (s : ByteArray) (A : Option Addr) (c : Nat) (l : List S36) (w : World) (hs : s.size ≤ 140737488351232) (hr : Kd.C k36 w A l.length l) (hc : l.length ≤ c) (ho : ∀ x ∈ l, OkS x) (hy : l.length * 40 ≤ 140737488351232) :
    Calls Try.prog 19 #[.string s, .slice A l.length c] w fun r w' => r = .returned (.bool (decide (FewS s l))) ∧ Below w.heap.size w w' :=
  (emendateref05_Few.calls (l.length + 1) s A c l _ w hr hc (few05_eq s l hs ho hy)).mono fun _ _ h => ⟨h.1, h.2.below⟩
theorem few_yes (s : ByteArray) (A : Option Addr) (c : Nat) (l : List S36) (w : World) (hs : s.size ≤ 140737488351232) (hr : Kd.C k36 w A l.length l) (hc : l.length ≤ c) (ho : ∀ x ∈ l, OkS x) (hy : l.length * 40 ≤ 140737488351232) (hf : FewS s l) :
    Calls Try.prog 19 #[.string s, .slice A l.length c] w fun r w' => r = .returned (.bool true) ∧ Below w.heap.size w w' := by
  have := few_call s A c l w hs hr hc ho hy
  rw [decide_eq_true hf] at this
  exact this
theorem few_no (s : ByteArray) (A : Option Addr) (c : Nat) (l : List S36) (w : World) (hs : s.size ≤ 140737488351232) (hr : Kd.C k36 w A l.length l) (hc : l.length ≤ c) (ho : ∀ x ∈ l, OkS x) (hy : l.length * 40 ≤ 140737488351232) (hf : ¬ FewS s l) :
    Calls Try.prog 19 #[.string s, .slice A l.length c] w fun r w' => r = .returned (.bool false) ∧ Below w.heap.size w w' := by
  have := few_call s A c l w hs hr hc ho hy
  rw [decide_eq_false hf] at this
  exact this

/-! #### after i calls -/
structure Inv (s : ByteArray) (l : List S36) (w wr : World) (g : Nat) (F : Nat → Prop) (m : M) (i : Nat) : Prop where
  st : St w wr g F m
  gd : Good s m
  sm : Small i m
  wb : wt m + szS (l.drop i) ≤ 20000
theorem Inv.below {s : ByteArray} {l : List S36} {w wr w' : World} {g : Nat} {F : Nat → Prop} {m : M} {i : Nat} (h : Inv s l w wr g F m i) (hb : Below wr.heap.size wr w') : Inv s l w w' g F m i := ⟨h.st.below hb, h.gd, h.sm, h.wb⟩
theorem Inv.start {s : ByteArray} {l : List S36} {w wr : World} {g : Nat} {F : Nat → Prop} (h : St w wr g F ⟨s, 0, [], []⟩) (hf : FewS s l) : Inv s l w wr g F ⟨s, 0, [], []⟩ 0 :=
  ⟨h, ⟨rfl, _, rfl⟩, ⟨by simp only [wt, sz]; have := hf.2; omega, Int.le_refl _, Int.le_refl _, Nat.le_refl _⟩, by simp only [wt, sz, List.drop_zero]; have := hf.2; omega⟩
theorem Inv.next {s : ByteArray} {l : List S36} {w wr w' : World} {g : Nat} {F F' : Nat → Prop} {m m' : M} {i : Nat} {a : S31} {er : Int} (h : Inv s l w wr g F m i) (hi : i < l.length) (hst : stepM m l[i] = (m', a, er)) (h' : St w w' g F' m') : Inv s l w w' g F' m' (i + 1) := by
  have hd : l.drop i = l[i] :: l.drop (i + 1) := List.drop_eq_getElem_cons hi
  have h1 := wt_step l[i] h.gd
  have h2 := cnt_step m l[i] i h.sm.h0 h.sm.h1 h.sm.h2
  have h3 := good_step l[i] h.gd
  rw [hst] at h1 h2 h3
  have hw := h.wb
  rw [hd] at hw
  simp only [szS] at hw
  dsimp only at h1 h2 h3
  exact ⟨h', h3, ⟨by omega, h2.1, h2.2.1, h2.2.2⟩, by omega⟩
/-- The run of call i. -/
theorem run_inv {s : ByteArray} {l : List S36} {w wr : World} {g : Nat} {F : Nat → Prop} {m m' : M} {i : Nat} {a : S31} {er : Int} (h : Inv s l w wr g F m i) (hi : i < l.length) (hl : l.length ≤ 30) (ho : ∀ x ∈ l, OkS x) (hst : stepM m l[i] = (m', a, er)) (x : S36) (hx : x = l[i]) :
    Calls Try.prog 21 #[.pointer (some ⟨g, 0, none⟩), .agg #[.int .u8 x.f0, .int .i64 x.f1.f0, .int .i64 x.f1.f1, .string x.f1.f2]] wr fun r w' =>
      r = .returned (.tuple #[.agg #[.int .i64 a.f0, .int .i64 a.f1, .string a.f2], .int .i64 er]) ∧ ∃ F', Inv s l w w' g F' m' (i + 1) ∧ (∀ k, F' k → F k ∨ wr.heap.size ≤ k) ∧ Did wr w' F := by
  subst hx
  have hok := ho l[i] (List.getElem_mem hi)
  have hw := h.wb
  have hd : l.drop i = l[i] :: l.drop (i + 1) := List.drop_eq_getElem_cons hi
  rw [hd] at hw
  simp only [szS] at hw
  have hwf := hok.1
  have hx : 0 ≤ l[i].f0 ∧ l[i].f0 ≤ 255 := by simpa [Lit.wf, IntKind.min, IntKind.max, IntKind.signed, IntKind.bits] using hwf
  have := run_st l[i] h.st h.gd h.sm (by omega) hx.1 hx.2 (by omega)
  rw [hst] at this
  refine this.mono fun r w' hr => ⟨hr.1, ?_⟩
  obtain ⟨F', h1, h2, h3⟩ := hr.2
  exact ⟨F', h.next hi hst h1, h2, h3⟩
theorem text_st {w0 w : World} {g : Nat} {F : Nat → Prop} {m : M} (h : St w0 w g F m) (t : ByteArray) (ht : m.t = t) : Calls Try.prog 24 #[.pointer (some ⟨g, 0, none⟩)] w fun r w' => r = .returned (.string t) ∧ w = w' := by
  subst ht; exact text_any w h.hist
theorem version_st {w0 w : World} {g : Nat} {F : Nat → Prop} {m : M} (h : St w0 w g F m) (v : Int) (hv : m.v = v) : Calls Try.prog 26 #[.pointer (some ⟨g, 0, none⟩)] w fun r w' => r = .returned (.int .i64 v) ∧ w = w' := by
  subst hv; exact version_any w h.hist
theorem depth_st {w0 w : World} {g : Nat} {F : Nat → Prop} {m : M} (h : St w0 w g F m) : Calls Try.prog 23 #[.pointer (some ⟨g, 0, none⟩)] w fun r w' => r = .returned (.tuple #[.int .i64 (m.un.length : Int), .int .i64 (m.re.length : Int)]) ∧ Below w.heap.size w w' := by
  have := depth_any w h.hist
  rw [List.length_reverse, List.length_reverse] at this
  exact this
/-- A new history. -/
theorem new_st {w0 w : World} (t : ByteArray) (hb : Below w0.heap.size w0 w) : Calls Try.prog 20 #[.string t] w fun r w' => ∃ g F, r = .returned (.pointer (some ⟨g, 0, none⟩)) ∧ St w0 w' g F ⟨t, 0, [], []⟩ ∧ g = w.heap.size ∧ (∀ k, F k → w.heap.size ≤ k) ∧ Below w.heap.size w w' :=
  (new_any t w).mono fun r w' ⟨h1, h2, h3⟩ => ⟨w.heap.size, fun k => k = w.heap.size, h1, St.new hb h2 h3, rfl, fun k hk => by rw [hk]; exact Nat.le_refl _, h3⟩
end Go.Proofs.Ytnmgcghbfnpofaa.Hist
