/- UndoRestores, walked: after the calls a Do, an Undo and a Redo. -/
import Derived.Test.YtnmgcghbfnpofaaU8
namespace Go.Proofs.Ytnmgcghbfnpofaa.Hist
open Go.RowKit Go.Proofs.Ytnmgcghbfnpofaa.PAll Go.Proofs.YtnmgcghbfnpofaaW.PrintWords Go.Proofs.Ytnmgcghbfnpofaa.Open Go.Proofs.Ytnmgcghbfnpofaa.Plain
set_option linter.unusedVariables false

theorem small_do {n : Nat} {m : M} (h : Small n m) (e : S31) (hw : wt m + e.f2.size ≤ 1000000) : Small (n + 1) (doM m e).1 := by
  obtain ⟨a, b, c⟩ := cnt_do m e n h.h0 h.h1 h.h2
  exact ⟨by have := wt_do m e; omega, a, b, c⟩
theorem small_undo {n : Nat} {s0 : ByteArray} {m : M} (h : Small n m) (hg : Good s0 m) : Small (n + 1) (undoM m).1 := by
  obtain ⟨a, b, c⟩ := cnt_undo m n h.h0 h.h1 h.h2
  exact ⟨by rw [wt_undo hg]; exact h.hw, a, b, c⟩
theorem small_redo {n : Nat} {s0 : ByteArray} {m : M} (h : Small n m) (hg : Good s0 m) : Small (n + 1) (redoM m).1 := by
  obtain ⟨a, b, c⟩ := cnt_redo m n h.h0 h.h1 h.h2
  exact ⟨by rw [wt_redo hg]; exact h.hw, a, b, c⟩
/-- A Do that went well, then Undo, then Redo. -/
theorem do_undo_redo {m : M} {e : S31} (h : (doM m e).2 = 0) :
    ∃ m1 m2 m3 a, doM m e = (m1, 0) ∧ undoM m1 = (m2, a, 0) ∧ redoM m2 = (m3, e, 0) ∧ m2.t = m.t ∧ m3.t = m1.t := by
  unfold doM at h ⊢
  by_cases hf : fits m.t.size e
  · rw [if_pos hf] at h ⊢
    by_cases hl : 4000 < (ap m.t e).size
    · rw [if_pos hl] at h; exact absurd h (by dsimp only; decide)
    · rw [if_neg hl]
      refine ⟨⟨ap m.t e, m.v + 1, inv m.t e :: m.un, []⟩, ⟨m.t, m.v + 1 + 1, m.un, [e]⟩, ⟨ap m.t e, m.v + 1 + 1 + 1, inv m.t e :: m.un, []⟩, inv m.t e, rfl, ?_, rfl, rfl, rfl⟩
      simp only [undoM, ap_inv hf, inv_inv hf]
  · rw [if_neg hf] at h; exact absurd h (by dsimp only; decide)
theorem do_case {w0 w : World} {g n : Nat} {F : Nat → Prop} {m m1 : M} {er : Int} (e : S31) (h : St w0 w g F m) (hs : Small n m) (hn : n ≤ 100000) (he : e.f2.size ≤ 1099511627776) (hd : doM m e = (m1, er)) :
    Calls Try.prog 28 #[.pointer (some ⟨g, 0, none⟩), .agg #[.int .i64 e.f0, .int .i64 e.f1, .string e.f2]] w fun r w' => r = .returned (.int .i64 er) ∧ Led w0 g F m1 w w' := by
  have := do_st e h hs hn he
  rw [hd] at this
  exact this
theorem undo_case {w0 w : World} {g n : Nat} {F : Nat → Prop} {s0 : ByteArray} {m m1 : M} {a : S31} {er : Int} (h : St w0 w g F m) (hg : Good s0 m) (hs : Small n m) (hn : n ≤ 100000) (hd : undoM m = (m1, a, er)) :
    Calls Try.prog 29 #[.pointer (some ⟨g, 0, none⟩)] w fun r w' => r = .returned (.tuple #[.agg #[.int .i64 a.f0, .int .i64 a.f1, .string a.f2], .int .i64 er]) ∧ Led w0 g F m1 w w' := by
  have := undo_st h hg hs hn
  rw [hd] at this
  exact this
theorem redo_case {w0 w : World} {g n : Nat} {F : Nat → Prop} {s0 : ByteArray} {m m1 : M} {a : S31} {er : Int} (h : St w0 w g F m) (hg : Good s0 m) (hs : Small n m) (hn : n ≤ 100000) (hd : redoM m = (m1, a, er)) :
    Calls Try.prog 30 #[.pointer (some ⟨g, 0, none⟩)] w fun r w' => r = .returned (.tuple #[.agg #[.int .i64 a.f0, .int .i64 a.f1, .string a.f2], .int .i64 er]) ∧ Led w0 g F m1 w w' := by
  have := redo_st h hg hs hn
  rw [hd] at this
  exact this

attribute [local go_sem high] eqA31
set_option maxRecDepth 100000 in
set_option maxHeartbeats 6400000 in
theorem restores_walk (s : ByteArray) (A : Option Addr) (c : Nat) (l : List S36) (e : S31) (w : World) (hs : s.size ≤ 140737488351232) (hr : Kd.C k36 w A l.length l) (hc : l.length ≤ c) (ho : ∀ x ∈ l, OkS x) (hy : l.length * 40 ≤ 140737488351232) (hoe : OkE e) :
    Calls Try.prog 5 #[.string s, .slice A l.length c, .agg #[.int .i64 e.f0, .int .i64 e.f1, .string e.f2]] w fun r w' => r = .returned (.bool true) ∧ Below w.heap.size w w' := by
  have HR := Aside0.mk hr
  have HC := Aside0.mk hc
  have HO := Aside0.mk ho
  have HY := Aside0.mk hy
  clear hr hc ho hy
  by_cases hf : FewS s l
  · by_cases hin : e.f2.size ≤ 1000
    · have HF := Aside0.mk hf
      have hgt : decide ((1000 : Int) < (e.f2.size : Int)) = false := decide_eq_false (by omega)
      clear hf
      go_enter Try.func5, Try.ntmps5
      go_wp2_with fail
      have K0 := Aside0.mk (blk_new w (.cells #[.int .i64 e.f0, .int .i64 e.f1, .string e.f2] 31))
      have B0 := Aside0.mk (below_new w (.cells #[.int .i64 e.f0, .int .i64 e.f1, .string e.f2] 31))
      generalize w.alloc (.cells #[.int .i64 e.f0, .int .i64 e.f1, .string e.f2] 31) = W at K0 B0 ⊢
      refine (awake_any W).mono ?_
      rintro r w1 ⟨rfl, hb⟩
      have K1 := Aside0.mk (blk_below K0.out hb)
      have B1 := Aside0.mk (B0.out.trans (hb.mono B0.out.size))
      clear hb K0 B0
      go_wp2_with fail
      refine (few_yes s A c l w1 hs (Kd.C_below HR.out B1.out) HC.out HO.out HY.out HF.out).mono ?_
      rintro r w2 ⟨rfl, hb⟩
      have K2 := Aside0.mk (blk_below K1.out hb)
      have B2 := Aside0.mk (B1.out.trans (hb.mono B1.out.size))
      clear hb B1 K1
      have q2 : w2.cell? ⟨w.heap.size, 2, none⟩ = some (.string e.f2) := (blk_cell K2.out 2).trans rfl
      go_wp2_with fail
      refine (new_st s B2.out).mono ?_
      rintro r w3 ⟨g, F, rfl, hst, -, hFn, hb⟩
      have K3 : Aside0 (Kp w3 F w.heap.size (.cells #[.int .i64 e.f0, .int .i64 e.f1, .string e.f2] 31)) := ⟨⟨blk_below K2.out hb, fun hk => by have := hFn _ hk; have := blk_lt K2.out; omega⟩⟩
      have I0 := Aside0.mk (Inv.start hst HF.out)
      clear hst B2 q2 K2 hFn hb
      go_wp2_with fail
      go_loopg [8] l.length (fun kq v8 wr => ∃ (x : Int) (F : Nat → Prop) (m : M), v8 = .int .i64 x ∧ Aside0 (0 ≤ x ∧ x + kq = l.length ∧ Inv s l w wr g F m x.toNat ∧ Kp wr F w.heap.size (.cells #[.int .i64 e.f0, .int .i64 e.f1, .string e.f2] 31)))
      case atStart => exact ⟨0, F, _, rfl, ⟨Int.le_refl _, by omega, I0.out, K3.out⟩⟩
      case round =>
        clear I0 K3 F
        obtain ⟨x, F, m, rfl, HA⟩ := hrel
        obtain ⟨hx0, hxk, hI, hK⟩ := HA.out
        clear HA
        cases gk with
        | zero =>
          have hd : decide (x < (l.length : Int)) = false := decide_eq_false (by omega)
          have IR := Aside0.mk hI
          have KR := Aside0.mk hK
          have hx30 : x.toNat ≤ 30 := by have := HF.out.1; omega
          clear hI hK hxk hx0
          have r0 : wr.cell? ⟨w.heap.size, 0, none⟩ = some (.int .i64 e.f0) := (blk_cell KR.out.blk 0).trans rfl
          have r1 : wr.cell? ⟨w.heap.size, 1, none⟩ = some (.int .i64 e.f1) := (blk_cell KR.out.blk 1).trans rfl
          have r2 : wr.cell? ⟨w.heap.size, 2, none⟩ = some (.string e.f2) := (blk_cell KR.out.blk 2).trans rfl
          go_wp2_with fail
          refine (text_st IR.out.st m.t rfl).mono ?_
          rintro r wr' ⟨rfl, rfl⟩
          go_wp2_with fail
          have hsz : wt m ≤ 20000 := by have := IR.out.wb; omega
          have hl30 := HF.out.1
          by_cases hd0 : (doM m e).2 = 0
          · obtain ⟨m1, m2, m3, a, hdo, hun, hre, ht2, ht3⟩ := do_undo_redo hd0
            have g1 := good_do e IR.out.gd
            have n1 := small_do IR.out.sm e (by omega)
            rw [hdo] at g1 n1
            have g2 := good_undo g1
            have n2 := small_undo n1 g1
            rw [hun] at g2 n2
            have G1 := Aside0.mk g1
            have N1 := Aside0.mk n1
            have G2 := Aside0.mk g2
            have N2 := Aside0.mk n2
            have HD := Aside0.mk hdo
            have HU := Aside0.mk hun
            have HE := Aside0.mk hre
            have T2 := Aside0.mk ht2
            have T3 := Aside0.mk ht3
            clear hd0 hdo hun hre ht2 ht3 g1 n1 g2 n2
            refine (do_case e IR.out.st IR.out.sm (by omega) (by omega) HD.out).mono ?_
            rintro r w5 ⟨rfl, F5, hs5, hf5, hd5⟩
            have S5 := Aside0.mk hs5
            have K5 := Aside0.mk (KR.out.call hf5 hd5)
            clear hs5 hf5 hd5
            go_wp2_with fail
            refine (text_st S5.out m1.t rfl).mono ?_
            rintro r w5' ⟨rfl, rfl⟩
            go_wp2_with fail
            refine (undo_case S5.out G1.out N1.out (by omega) HU.out).mono ?_
            rintro r w6 ⟨rfl, F6, hs6, hf6, hd6⟩
            have S6 := Aside0.mk (hs6.below (below_new w6 (.cells #[.int .i64 a.f0, .int .i64 a.f1, .string a.f2] 31)))
            have K6 := Aside0.mk ((K5.out.call hf6 hd6).below (below_new w6 (.cells #[.int .i64 a.f0, .int .i64 a.f1, .string a.f2] 31)))
            clear hs6 hf6 hd6 S5 K5
            go_wp2_with fail
            refine (text_st S6.out m.t T2.out).mono ?_
            rintro r w6' ⟨rfl, rfl⟩
            go_wp2_with fail
            refine (redo_case S6.out G2.out N2.out (by omega) HE.out).mono ?_
            rintro r w7 ⟨rfl, F7, hs7, hf7, hd7⟩
            have S7 := Aside0.mk (hs7.below (below_new w7 (.cells #[.int .i64 e.f0, .int .i64 e.f1, .string e.f2] 31)))
            have K7 := Aside0.mk (K6.out.call hf7 hd7)
            clear hs7 hf7 hd7 S6 K6
            have v0 : w7.cell? ⟨w.heap.size, 0, none⟩ = some (.int .i64 e.f0) := (blk_cell K7.out.blk 0).trans rfl
            have v1 : w7.cell? ⟨w.heap.size, 1, none⟩ = some (.int .i64 e.f1) := (blk_cell K7.out.blk 1).trans rfl
            have v2 : w7.cell? ⟨w.heap.size, 2, none⟩ = some (.string e.f2) := (blk_cell K7.out.blk 2).trans rfl
            have x0 : w.heap.size < w7.heap.size := blk_lt K7.out.blk
            have x1 : w.heap.size ≠ w7.heap.size := Nat.ne_of_lt x0
            have x2 : w7.heap.size ≠ w.heap.size := Nat.ne_of_gt x0
            go_wp2_with fail
            refine (text_st S7.out m1.t T3.out).mono ?_
            rintro r w7' ⟨rfl, rfl⟩
            go_wp2_with fail
            go_ret
            exact ⟨by simp, S7.out.bel⟩
          · obtain ⟨m1, er, hdo⟩ : ∃ m1 er, doM m e = (m1, er) := ⟨_, _, rfl⟩
            have hsame := do_err_same hd0
            rw [hdo] at hd0 hsame
            have heb : (er != 0) = true := bne_iff_ne.2 hd0
            have HD := Aside0.mk hdo
            have HM : Aside0 (m1 = m) := ⟨hsame⟩
            clear hd0 hdo hsame
            refine (do_case e IR.out.st IR.out.sm (by omega) (by omega) HD.out).mono ?_
            rintro r w5 ⟨rfl, F5, hs5, hf5, hd5⟩
            have S5 := Aside0.mk hs5
            clear hs5 hf5 hd5
            go_wp2_with fail
            refine (text_st S5.out m.t (by rw [HM.out])).mono ?_
            rintro r w6 ⟨rfl, rfl⟩
            go_wp2_with fail
            go_ret
            exact ⟨by simp, S5.out.bel⟩
        | succ k1 =>
          have hlt : x.toNat < l.length := by omega
          have hd : decide (x < (l.length : Int)) = true := decide_eq_true (by omega)
          have p1 : 0 ≤ x := hx0
          have q1 : x < (l.length : Int) := by omega
          obtain ⟨ad, eA, y0, y1, y2, y3⟩ := at_T36 HR.out x p1 q1
          cases eA
          have hxe : rd_T36 l x = l[x.toNat] := by
            have := rd36 hlt
            rw [Int.toNat_of_nonneg hx0] at this
            exact this
          obtain ⟨m', a, er, hst⟩ : ∃ m' a er, stepM m l[x.toNat] = (m', a, er) := ⟨_, _, _, rfl⟩
          have hB := hI.st.bel
          replace y0 := (hB.cell (World.block_lt_of_cell? w _ y0)).trans y0
          replace y1 := (hB.cell (World.block_lt_of_cell? w _ y1)).trans y1
          replace y2 := (hB.cell (World.block_lt_of_cell? w _ y2)).trans y2
          replace y3 := (hB.cell (World.block_lt_of_cell? w _ y3)).trans y3
          have HW : Aside0 (wrap64 (x + 1) = x + 1) := ⟨w64 (by omega) (by have := HF.out.1; omega)⟩
          have HX := Aside0.mk hxe
          have HS := Aside0.mk hst
          have HI := Aside0.mk hI
          have HQ := Aside0.mk hK
          have HK := Aside0.mk hxk
          have HX0 := Aside0.mk hx0
          clear hxe hst hI hK hxk hx0 hB
          replace p1 := eq_true p1
          replace q1 := eq_true q1
          go_wp2_with fail
          refine (run_inv HI.out hlt HF.out.1 HO.out HS.out (rd_T36 l x) HX.out).mono ?_
          rintro r w4 ⟨rfl, F', hI', hf', hd'⟩
          have HJ := Aside0.mk hI'
          have HQ' := Aside0.mk (HQ.out.call hf' hd')
          clear hI' hf' hd'
          go_wp2
          go_roundg k1
          case measure => omega
          case rel => exact ⟨x + 1, F', m', (by first | rfl | rw [HW.out]), ⟨by have := HX0.out; omega, by have := HK.out; omega, by rw [show (x + 1).toNat = x.toNat + 1 from by have := HX0.out; omega]; exact HJ.out, HQ'.out⟩⟩
    · have HF := Aside0.mk hf
      have hgt : decide ((1000 : Int) < (e.f2.size : Int)) = true := decide_eq_true (by omega)
      clear hf
      go_enter Try.func5, Try.ntmps5
      go_wp2_with fail
      have K0 := Aside0.mk (blk_new w (.cells #[.int .i64 e.f0, .int .i64 e.f1, .string e.f2] 31))
      have B0 := Aside0.mk (below_new w (.cells #[.int .i64 e.f0, .int .i64 e.f1, .string e.f2] 31))
      generalize w.alloc (.cells #[.int .i64 e.f0, .int .i64 e.f1, .string e.f2] 31) = W at K0 B0 ⊢
      refine (awake_any W).mono ?_
      rintro r w1 ⟨rfl, hb⟩
      have K1 := Aside0.mk (blk_below K0.out hb)
      have B1 := Aside0.mk (B0.out.trans (hb.mono B0.out.size))
      clear hb K0 B0
      go_wp2_with fail
      refine (few_yes s A c l w1 hs (Kd.C_below HR.out B1.out) HC.out HO.out HY.out HF.out).mono ?_
      rintro r w2 ⟨rfl, hb⟩
      have K2 := Aside0.mk (blk_below K1.out hb)
      have B2 := Aside0.mk (B1.out.trans (hb.mono B1.out.size))
      clear hb B1 K1
      have q2 : w2.cell? ⟨w.heap.size, 2, none⟩ = some (.string e.f2) := (blk_cell K2.out 2).trans rfl
      go_wp2_with fail
      go_ret
      exact ⟨rfl, B2.out⟩
  · have HF := Aside0.mk hf
    clear hf
    go_enter Try.func5, Try.ntmps5
    go_wp2_with fail
    have K0 := Aside0.mk (blk_new w (.cells #[.int .i64 e.f0, .int .i64 e.f1, .string e.f2] 31))
    have B0 := Aside0.mk (below_new w (.cells #[.int .i64 e.f0, .int .i64 e.f1, .string e.f2] 31))
    generalize w.alloc (.cells #[.int .i64 e.f0, .int .i64 e.f1, .string e.f2] 31) = W at K0 B0 ⊢
    refine (awake_any W).mono ?_
    rintro r w1 ⟨rfl, hb⟩
    have K1 := Aside0.mk (blk_below K0.out hb)
    have B1 := Aside0.mk (B0.out.trans (hb.mono B0.out.size))
    clear hb K0 B0
    go_wp2_with fail
    refine (few_no s A c l w1 hs (Kd.C_below HR.out B1.out) HC.out HO.out HY.out HF.out).mono ?_
    rintro r w2 ⟨rfl, hb⟩
    have K2 := Aside0.mk (blk_below K1.out hb)
    have B2 := Aside0.mk (B1.out.trans (hb.mono B1.out.size))
    clear hb B1 K1
    have q2 : w2.cell? ⟨w.heap.size, 2, none⟩ = some (.string e.f2) := (blk_cell K2.out 2).trans rfl
    go_wp2_with fail
    go_ret
    exact ⟨rfl, B2.out⟩
end Go.Proofs.Ytnmgcghbfnpofaa.Hist
namespace Go.Proofs.Ytnmgcghbfnpofaa.Walk
open Go.RowKit Go.Proofs.Ytnmgcghbfnpofaa.PAll Go.Proofs.YtnmgcghbfnpofaaW.PrintWords Go.Proofs.Ytnmgcghbfnpofaa.Open
theorem UndoRestores (s : ByteArray) (A : Option Addr) (c : Nat) (l : List S36) (e : S31) (w : World) (hs : s.size ≤ 140737488351232) (hr : Kd.C k36 w A l.length l) (hc : l.length ≤ c) (ho : ∀ x ∈ l, OkS x) (hy : l.length * 40 ≤ 140737488351232) (hoe : OkE e) :
    Calls Try.prog 5 #[.string s, .slice A l.length c, .agg #[.int .i64 e.f0, .int .i64 e.f1, .string e.f2]] w fun r w' => r = .returned (.bool true) ∧ Below w.heap.size w w' := Hist.restores_walk s A c l e w hs hr hc ho hy hoe
end Go.Proofs.Ytnmgcghbfnpofaa.Walk
