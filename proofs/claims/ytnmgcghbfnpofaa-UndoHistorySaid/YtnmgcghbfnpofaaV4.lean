/- UndoReturnsAppliedEdit, walked: in each round the edit that the call returns leads from the text before to the text after; a failed call changes nothing. -/
import Derived.Test.YtnmgcghbfnpofaaU8
import Derived.Test.YtnmgcghbfnpofaaA27
namespace Go.Proofs.Ytnmgcghbfnpofaa.Hist
open Go.RowKit Go.Proofs.Ytnmgcghbfnpofaa.PAll Go.Proofs.YtnmgcghbfnpofaaW.PrintWords Go.Proofs.Ytnmgcghbfnpofaa.Open Go.Proofs.Ytnmgcghbfnpofaa.Plain
set_option linter.unusedVariables false

theorem step_err {m m' : M} {x : S36} {a : S31} {er : Int} (h : stepM m x = (m', a, er)) (he : er ≠ 0) : m' = m := by
  have h1 : (stepM m x).1 = m' := by rw [h]
  have h2 : (stepM m x).2.2 = er := by rw [h]
  rw [← h2] at he
  rw [← h1]
  unfold stepM undoM redoM at he ⊢
  split at he
  · rename_i c
    rw [if_pos c]
    split at he
    · rfl
    · exact absurd rfl he
  · rename_i c
    rw [if_neg c]
    split at he
    · rename_i c2
      rw [if_pos c2]
      split at he
      · rfl
      · exact absurd rfl he
    · rename_i c2
      rw [if_neg c2]
      split at he
      · exact absurd rfl he
      · rename_i c3
        rw [if_neg c3]
theorem doM_ok {m : M} {e : S31} (h : (doM m e).2 = 0) : fits m.t.size e ∧ ap m.t e = (doM m e).1.t := by
  unfold doM at h ⊢
  split
  · rename_i hf
    rw [if_pos hf] at h
    split
    · rename_i hl
      rw [if_pos hl] at h
      exact absurd h (by dsimp only; decide)
    · exact ⟨hf, rfl⟩
  · rename_i hf
    rw [if_neg hf] at h
    exact absurd h (by dsimp only; decide)
theorem step_ok {s0 : ByteArray} {m m' : M} {x : S36} {a : S31} {er : Int} (h : stepM m x = (m', a, er)) (hg : Good s0 m) (he : er = 0) : fits m.t.size a ∧ ap m.t a = m'.t := by
  have h1 : (stepM m x).1 = m' := by rw [h]
  have h2 : (stepM m x).2.2 = er := by rw [h]
  have h3 : (stepM m x).2.1 = a := by rw [h]
  rw [he] at h2
  rw [← h1, ← h3]
  unfold stepM at h2 ⊢
  by_cases c : x.f0 % 3 = 1
  · rw [if_pos c] at h2 ⊢
    unfold undoM at h2 ⊢
    split at h2
    · exact absurd h2 (by dsimp only; decide)
    · rename_i y ys e
      exact ⟨good_un hg e, rfl⟩
  · rw [if_neg c] at h2 ⊢
    by_cases c2 : x.f0 % 3 = 2
    · rw [if_pos c2] at h2 ⊢
      unfold redoM at h2 ⊢
      split at h2
      · exact absurd h2 (by dsimp only; decide)
      · rename_i y ys e
        exact ⟨good_re hg e, rfl⟩
    · rw [if_neg c2] at h2 ⊢
      by_cases c3 : (doM m x.f1).2 = 0
      · rw [if_pos c3]
        exact doM_ok c3
      · rw [if_neg c3] at h2
        exact absurd h2 c3
theorem szS_get {l : List S36} {i : Nat} (h : i < l.length) : l[i].f1.f2.size ≤ szS l := by
  induction l generalizing i with
  | nil => exact absurd h (by simp)
  | cons y r ih =>
    cases i with
    | zero => simp only [List.getElem_cons_zero, szS]; omega
    | succ i =>
      have := ih (i := i) (by simpa using h)
      simp only [List.getElem_cons_succ, szS]; omega
theorem step_size {s0 : ByteArray} {m m' : M} {x : S36} {a : S31} {er : Int} (h : stepM m x = (m', a, er)) (hg : Good s0 m) (he : er = 0) : a.f2.size ≤ wt m + x.f1.f2.size := by
  have h2 : (stepM m x).2.2 = er := by rw [h]
  have h3 : (stepM m x).2.1 = a := by rw [h]
  rw [he] at h2
  rw [← h3]
  unfold stepM at h2 ⊢
  by_cases c : x.f0 % 3 = 1
  · rw [if_pos c] at h2 ⊢
    unfold undoM at h2 ⊢
    split at h2
    · exact absurd h2 (by dsimp only; decide)
    · rename_i y ys e
      have := sz_le_un e
      dsimp only; omega
  · rw [if_neg c] at h2 ⊢
    by_cases c2 : x.f0 % 3 = 2
    · rw [if_pos c2] at h2 ⊢
      unfold redoM at h2 ⊢
      split at h2
      · exact absurd h2 (by dsimp only; decide)
      · rename_i y ys e
        have := sz_le_re e
        dsimp only; omega
    · rw [if_neg c2] at h2 ⊢
      by_cases c3 : (doM m x.f1).2 = 0
      · rw [if_pos c3]
        dsimp only; omega
      · rw [if_neg c3] at h2
        exact absurd h2 c3
theorem refApply_fits (s : ByteArray) (e : S31) (w : World) (hf : fits s.size e) (hs : s.size ≤ 1099511627776) (he : e.f2.size ≤ 1099511627776) :
    Calls Try.prog 27 #[.string s, .agg #[.int .i64 e.f0, .int .i64 e.f1, .string e.f2]] w fun r w' => r = .returned (.tuple #[.string (ap s e), .int .i64 0]) ∧ Below w.heap.size w w' :=
  emendateref03_Apply.calls s e.f0 e.f1 e.f2 (ap s e) 0 w (by rw [apply_ref s e hs he, if_pos hf])

set_option maxRecDepth 100000 in
set_option maxHeartbeats 6400000 in
theorem applied_walk (s : ByteArray) (A : Option Addr) (c : Nat) (l : List S36) (w : World) (hs : s.size ≤ 140737488351232) (hr : Kd.C k36 w A l.length l) (hc : l.length ≤ c) (ho : ∀ x ∈ l, OkS x) (hy : l.length * 40 ≤ 140737488351232) :
    Calls Try.prog 4 #[.string s, .slice A l.length c] w fun r w' => r = .returned (.bool true) ∧ Below w.heap.size w w' := by
  have HR := Aside0.mk hr
  have HC := Aside0.mk hc
  have HO := Aside0.mk ho
  have HY := Aside0.mk hy
  clear hr hc ho hy
  by_cases hf : FewS s l
  · have HF := Aside0.mk hf
    clear hf
    go_enter Try.func4, Try.ntmps4
    go_wp2_with fail
    refine (awake_any w).mono ?_
    rintro r w1 ⟨rfl, hb⟩
    have B1 := Aside0.mk hb
    clear hb
    go_wp2_with fail
    refine (few_yes s A c l w1 hs (Kd.C_below HR.out B1.out) HC.out HO.out HY.out HF.out).mono ?_
    rintro r w2 ⟨rfl, hb⟩
    have B2 := Aside0.mk (B1.out.trans (hb.mono B1.out.size))
    clear hb B1
    go_wp2_with fail
    refine (new_st s B2.out).mono ?_
    rintro r w3 ⟨g, F, rfl, hst, -, -, -⟩
    have I0 := Aside0.mk (Inv.start hst HF.out)
    clear hst B2
    go_wp2_with fail
    go_loopg [6] l.length (fun kq v6 wr => ∃ (x : Int) (F : Nat → Prop) (m : M), v6 = .int .i64 x ∧ Aside0 (0 ≤ x ∧ x + kq = l.length ∧ Inv s l w wr g F m x.toNat))
    case atStart => exact ⟨0, F, _, rfl, ⟨Int.le_refl _, by omega, I0.out⟩⟩
    case round =>
      clear I0 F
      obtain ⟨x, F, m, rfl, HA⟩ := hrel
      obtain ⟨hx0, hxk, hI⟩ := HA.out
      clear HA
      cases gk with
      | zero =>
        have hd : decide (x < (l.length : Int)) = false := decide_eq_false (by omega)
        have IR := Aside0.mk hI
        clear hI hxk hx0
        go_wp2
        go_ret
        exact ⟨rfl, IR.out.st.bel⟩
      | succ k1 =>
        have hlt : x.toNat < l.length := by omega
        have hd : decide (x < (l.length : Int)) = true := decide_eq_true (by omega)
        have p1 : 0 ≤ x := hx0
        have q1 : x < (l.length : Int) := by omega
        obtain ⟨ad, eA, y0, y1, y2, y3⟩ := at_T36 HR.out x p1 q1
        cases eA
        have hxe : rd_T36 l x = l[x.toNat] := by
          have := rd36 hlt
          rw [Int.toNat_of_nonneg hx0] at this
          exact this
        obtain ⟨m', a, er, hst⟩ : ∃ m' a er, stepM m l[x.toNat] = (m', a, er) := ⟨_, _, _, rfl⟩
        have hB := hI.st.bel
        replace y0 := (hB.cell (World.block_lt_of_cell? w _ y0)).trans y0
        replace y1 := (hB.cell (World.block_lt_of_cell? w _ y1)).trans y1
        replace y2 := (hB.cell (World.block_lt_of_cell? w _ y2)).trans y2
        replace y3 := (hB.cell (World.block_lt_of_cell? w _ y3)).trans y3
        have HW : Aside0 (wrap64 (x + 1) = x + 1) := ⟨w64 (by omega) (by have := HF.out.1; omega)⟩
        have HX := Aside0.mk hxe
        have HS := Aside0.mk hst
        have HI := Aside0.mk hI
        have HLT := Aside0.mk hlt
        have HK := Aside0.mk hxk
        have HX0 := Aside0.mk hx0
        clear hxe hst hI hxk hx0 hB
        replace p1 := eq_true p1
        replace q1 := eq_true q1
        go_wp2_with fail
        refine (text_st HI.out.st m.t rfl).mono ?_
        rintro r wr' ⟨rfl, rfl⟩
        go_wp2_with fail
        refine (run_inv HI.out hlt HF.out.1 HO.out HS.out (rd_T36 l x) HX.out).mono ?_
        rintro r w4 ⟨rfl, F', hI', -, -⟩
        have HJ := Aside0.mk (hI'.below (below_new w4 (.cells #[.int .i64 a.f0, .int .i64 a.f1, .string a.f2] 31)))
        clear hI'
        by_cases he : er = 0
        · have heb : (er != 0) = false := by rw [he]; rfl
          have HE := Aside0.mk (step_ok HS.out HI.out.gd he)
          have hz : m.t.size ≤ 1099511627776 ∧ a.f2.size ≤ 1099511627776 := by
            have h1 := HI.out.sm.hw
            have h2 := step_size HS.out HI.out.gd he
            have h3 := HF.out.2
            have h4 := HI.out.wb
            have h5 := szS_get hlt
            unfold wt at h1 h2 h4
            omega
          have HZ := Aside0.mk hz
          clear he hz
          go_wp2_with (first
            | (go_at_call 27; (with_reducible refine (refApply_fits m.t a _ HE.out.1 HZ.out.1 HZ.out.2).mono ?_); rintro r w5 ⟨rfl, hb⟩; have HJ2 := Aside0.mk (HJ.out.below hb); clear hb)
            | (go_at_call 24; (with_reducible refine (text_st HJ2.out.st (ap m.t a) HE.out.2.symm).mono ?_); rintro r w6 ⟨rfl, rfl⟩))
          go_roundg k1
          case measure => omega
          case rel => exact ⟨x + 1, F', m', (by first | rfl | rw [HW.out]), ⟨by have := HX0.out; omega, by have := HK.out; omega, by rw [show (x + 1).toNat = x.toNat + 1 from by have := HX0.out; omega]; exact HJ2.out⟩⟩
        · have heb : (er != 0) = true := bne_iff_ne.2 he
          have HE := Aside0.mk (step_err HS.out he)
          clear he
          go_wp2_with (go_at_call 24; (with_reducible refine (text_st HJ.out.st m.t (by rw [HE.out])).mono ?_); rintro r w6 ⟨rfl, rfl⟩)
          go_roundg k1
          case measure => omega
          case rel => exact ⟨x + 1, F', m', (by first | rfl | rw [HW.out]), ⟨by have := HX0.out; omega, by have := HK.out; omega, by rw [show (x + 1).toNat = x.toNat + 1 from by have := HX0.out; omega]; exact HJ.out⟩⟩
  · have HF := Aside0.mk hf
    clear hf
    go_enter Try.func4, Try.ntmps4
    go_wp2_with fail
    refine (awake_any w).mono ?_
    rintro r w1 ⟨rfl, hb⟩
    have B1 := Aside0.mk hb
    clear hb
    go_wp2_with fail
    refine (few_no s A c l w1 hs (Kd.C_below HR.out B1.out) HC.out HO.out HY.out HF.out).mono ?_
    rintro r w2 ⟨rfl, hb⟩
    have B2 := Aside0.mk (B1.out.trans (hb.mono B1.out.size))
    clear hb B1
    go_wp2_with fail
    go_ret
    exact ⟨rfl, B2.out⟩
end Go.Proofs.Ytnmgcghbfnpofaa.Hist
namespace Go.Proofs.Ytnmgcghbfnpofaa.Walk
open Go.RowKit Go.Proofs.Ytnmgcghbfnpofaa.PAll Go.Proofs.YtnmgcghbfnpofaaW.PrintWords Go.Proofs.Ytnmgcghbfnpofaa.Open
theorem UndoReturnsAppliedEdit (s : ByteArray) (A : Option Addr) (c : Nat) (l : List S36) (w : World) (hs : s.size ≤ 140737488351232) (hr : Kd.C k36 w A l.length l) (hc : l.length ≤ c) (ho : ∀ x ∈ l, OkS x) (hy : l.length * 40 ≤ 140737488351232) :
    Calls Try.prog 4 #[.string s, .slice A l.length c] w fun r w' => r = .returned (.bool true) ∧ Below w.heap.size w w' := Hist.applied_walk s A c l w hs hr hc ho hy
end Go.Proofs.Ytnmgcghbfnpofaa.Walk
