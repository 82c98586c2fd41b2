/- UndoLimit, walked: one insertion into a text of n bytes. -/
import Derived.Test.YtnmgcghbfnpofaaV5
import Derived.Test.YtnmgcghbfnpofaaA39
namespace Go.Proofs.Ytnmgcghbfnpofaa.Hist
open Go.RowKit Go.Proofs.Ytnmgcghbfnpofaa.PAll Go.Proofs.YtnmgcghbfnpofaaW.PrintWords Go.Proofs.Ytnmgcghbfnpofaa.Open Go.Proofs.Ytnmgcghbfnpofaa.Plain
set_option linter.unusedVariables false

theorem text_l0 (n : Nat) (hn : n ≤ 4000) (d : Nat) : ∀ (k : Nat) (xs : List Int) (i : Nat), i + d = n → xs.length = n → d < k → ∃ ys : List Int, emendatelaw05_text.l0 k n xs i = some (strOfNums ys) ∧ ys.length = n := by
  induction d with
  | zero =>
    intro k xs i hi hx hk
    obtain ⟨k, rfl⟩ : ∃ m, k = m + 1 := ⟨k - 1, by omega⟩
    refine ⟨xs, ?_, hx⟩
    simp only [emendatelaw05_text.l0]
    rw [if_neg (by omega)]
  | succ d ih =>
    intro k xs i hi hx hk
    obtain ⟨k, rfl⟩ : ∃ m, k = m + 1 := ⟨k - 1, by omega⟩
    simp only [emendatelaw05_text.l0]
    rw [if_pos (by omega), if_pos (by omega), if_pos (by omega), w64 (n := (i : Int) + 1) (by omega) (by omega)]
    exact ih k _ (i + 1) (by omega) (by rw [List.length_set]; exact hx) (by omega)
theorem strOf_size (ys : List Int) : (strOfNums ys).size = ys.length := by
  rw [← L_length]
  simp [strOfNums, L]
theorem text_call (n : Int) (h0 : 0 ≤ n) (h1 : n ≤ 4000) (w : World) : ∃ b : ByteArray, (b.size : Int) = n ∧ Calls Try.prog 39 #[.int .i64 n] w fun r w' => r = .returned (.string b) ∧ Below w.heap.size w w' := by
  obtain ⟨N, rfl⟩ := Int.eq_ofNat_of_zero_le h0
  obtain ⟨ys, hy, hl⟩ := text_l0 N (by omega) N (N + 1) (List.replicate N 0) 0 (by omega) (by simp) (by omega)
  refine ⟨strOfNums ys, by rw [strOf_size, hl], emendatelaw05_text.calls (N + 1) N (strOfNums ys) w ?_⟩
  unfold emendatelaw05_text.f
  rw [if_pos h0, Int.toNat_natCast, if_pos (by omega)]
  exact hy

theorem limit_do {t b : ByteArray} {at_ : Int} (h0 : 0 ≤ at_) (h1 : at_ ≤ t.size) :
    fits t.size ⟨at_, 0, b⟩ ∧ ((ap t ⟨at_, 0, b⟩).size : Int) = t.size + b.size := by
  have hf : fits t.size ⟨at_, 0, b⟩ := by unfold fits; dsimp only; omega
  have := ap_size hf
  dsimp only at this
  exact ⟨hf, by omega⟩

theorem limit_case {t b : ByteArray} {a0 a2 at_ : Int} (h0 : 0 ≤ at_) (h1 : at_ ≤ t.size) (ht : (t.size : Int) = a0) (hb : (b.size : Int) = a2) :
    ∃ m er, doM ⟨t, 0, [], []⟩ ⟨at_, 0, b⟩ = (m, er) ∧ (4000 < a0 + a2 → er = 11 ∧ m.t = t ∧ m.v = 0) ∧ (¬ 4000 < a0 + a2 → er = 0 ∧ (m.t.size : Int) = a0 + a2 ∧ m.v = 1) := by
  obtain ⟨hf, hz⟩ := limit_do (b := b) h0 h1
  unfold doM
  dsimp only
  rw [if_pos hf]
  by_cases h : 4000 < a0 + a2
  · rw [if_pos (by omega)]
    exact ⟨_, _, rfl, fun _ => ⟨rfl, rfl, rfl⟩, fun h' => absurd h h'⟩
  · rw [if_neg (by omega)]
    exact ⟨_, _, rfl, fun h' => absurd h' h, fun _ => ⟨rfl, by dsimp only; omega, rfl⟩⟩

set_option maxRecDepth 100000 in
set_option maxHeartbeats 6400000 in
theorem limit_walk (a0 a1 a2 : Int) (w : World) (h0 : 0 ≤ a0 ∧ a0 ≤ 65535) (h1 : 0 ≤ a1 ∧ a1 ≤ 65535) (h2 : 0 ≤ a2 ∧ a2 ≤ 65535) :
    Calls Try.prog 10 #[.int .u16 a0, .int .u16 a1, .int .u16 a2] w fun r w' => r = .returned (.bool true) ∧ Below w.heap.size w w' := by
  obtain ⟨x0, x1⟩ := h0
  obtain ⟨y0, y1⟩ := h1
  obtain ⟨z0, z1⟩ := h2
  have n0 : 0 ≤ a0 % 4001 := by omega
  have n1 : a0 % 4001 ≤ 4000 := by omega
  have m0 : 0 ≤ a2 % 4001 := by omega
  have m1 : a2 % 4001 ≤ 4000 := by omega
  have p0 : 0 ≤ a1 % (a0 % 4001 + 1) := Int.emod_nonneg _ (by omega)
  have p1 : a1 % (a0 % 4001 + 1) < a0 % 4001 + 1 := Int.emod_lt_of_pos _ (by omega)
  go_enter Try.func10, Try.ntmps10
  go_wp2_with fail
  refine (awake_any w).mono ?_
  rintro r w1 ⟨rfl, hb⟩
  have B1 := Aside0.mk hb
  clear hb
  go_wp2_with fail
  obtain ⟨t, ht, htc⟩ := text_call (a0 % 4001) n0 n1 w1
  refine htc.mono ?_
  clear htc
  rintro r w2 ⟨rfl, hb⟩
  have B2 := Aside0.mk (B1.out.trans (hb.mono B1.out.size))
  have HT := Aside0.mk ht
  clear hb B1 ht
  go_wp2_with fail
  refine (new_st t B2.out).mono ?_
  rintro r w3 ⟨g, F, rfl, hst, -, -, -⟩
  have S3 := Aside0.mk hst
  clear hst B2
  go_wp2_with fail
  obtain ⟨b, hbz, hbc⟩ := text_call (a2 % 4001) m0 m1 w3.drew
  obtain ⟨m, er, hd, hL, hN⟩ := limit_case (t := t) (b := b) (a0 := a0 % 4001) (a2 := a2 % 4001) (at_ := a1 % (a0 % 4001 + 1)) p0 (by have := HT.out; omega) HT.out hbz
  have HB := Aside0.mk hbc
  have HZ := Aside0.mk hbz
  have HD := Aside0.mk hd
  have HS : Aside0 (Small 1 (⟨t, 0, [], []⟩ : M)) := ⟨⟨by simp only [wt, sz]; have := HT.out; omega, Int.le_refl _, (by decide : (0 : Int) ≤ ((1 : Nat) : Int)), by simp⟩⟩
  have HE : Aside0 (b.size ≤ 1099511627776) := ⟨by omega⟩
  clear hbc hbz hd
  have hdw : IntKind.i64.wrap (a0 % 4001 + 1) = a0 % 4001 + 1 := IntWalk.i64_in _ (by omega)
  have hdv : IntKind.i64.wrap a1 = a1 := IntWalk.i64_in _ (by omega)
  have hdz : (a0 % 4001 + 1 = 0) = False := eq_false (by omega)
  have hdm : a1.tmod (a0 % 4001 + 1) = a1 % (a0 % 4001 + 1) := IntWalk.rem_in _ _ y0
  by_cases hlim : 4000 < a0 % 4001 + a2 % 4001
  · obtain ⟨rfl, hmt, hmv⟩ := hL hlim
    have HM := Aside0.mk hmt
    have HV := Aside0.mk hmv
    have hlt : decide (4000 < a0 % 4001 + a2 % 4001) = true := decide_eq_true hlim
    have hte : ((t.size : Int) == a0 % 4001) = true := beq_iff_eq.2 HT.out
    clear hL hN hmt hmv hlim
    go_region_held3 (fun _ => True) (first | exact trivial | go_keep)
      (first
        | (go_at_call 39; (with_reducible refine HB.out.mono ?_); rintro r w4 ⟨rfl, hbel⟩; have S4 := Aside0.mk (S3.out.below (belowX ((Below.refl _ _).drew) hbel)); clear hbel)
        | (go_at_call 28; (with_reducible refine (do_case ⟨a1 % (a0 % 4001 + 1), 0, b⟩ S4.out HS.out (by omega) HE.out HD.out).mono ?_); rintro r w5 ⟨rfl, F5, hs5, hf5, hd5⟩; have S5 := Aside0.mk hs5; clear hs5 hf5 hd5 S4))
    go_wp2_with fail
    refine (text_st S5.out t HM.out).mono ?_
    rintro r w6 ⟨rfl, rfl⟩
    go_wp2_with fail
    refine (version_st S5.out 0 HV.out).mono ?_
    rintro r w7 ⟨rfl, rfl⟩
    go_wp2_with fail
    go_ret
    exact ⟨rfl, S5.out.bel⟩
  · obtain ⟨rfl, hmt, hmv⟩ := hN hlim
    have HM := Aside0.mk hmt
    have HV := Aside0.mk hmv
    have hlt : decide (4000 < a0 % 4001 + a2 % 4001) = false := decide_eq_false hlim
    have hte : ((m.t.size : Int) == a0 % 4001 + a2 % 4001) = true := beq_iff_eq.2 HM.out
    clear hL hN hmt hmv hlim
    go_region_held3 (fun _ => True) (first | exact trivial | go_keep)
      (first
        | (go_at_call 39; (with_reducible refine HB.out.mono ?_); rintro r w4 ⟨rfl, hbel⟩; have S4 := Aside0.mk (S3.out.below (belowX ((Below.refl _ _).drew) hbel)); clear hbel)
        | (go_at_call 28; (with_reducible refine (do_case ⟨a1 % (a0 % 4001 + 1), 0, b⟩ S4.out HS.out (by omega) HE.out HD.out).mono ?_); rintro r w5 ⟨rfl, F5, hs5, hf5, hd5⟩; have S5 := Aside0.mk hs5; clear hs5 hf5 hd5 S4))
    go_wp2_with fail
    refine (text_st S5.out m.t rfl).mono ?_
    rintro r w6 ⟨rfl, rfl⟩
    go_wp2_with fail
    refine (version_st S5.out 1 HV.out).mono ?_
    rintro r w7 ⟨rfl, rfl⟩
    go_wp2_with fail
    go_ret
    exact ⟨rfl, S5.out.bel⟩
end Go.Proofs.Ytnmgcghbfnpofaa.Hist
namespace Go.Proofs.Ytnmgcghbfnpofaa.Walk
open Go.RowKit Go.Proofs.Ytnmgcghbfnpofaa.PAll Go.Proofs.YtnmgcghbfnpofaaW.PrintWords Go.Proofs.Ytnmgcghbfnpofaa.Open
theorem u16_of {a : Int} (h : (Lit.int .u16 a).wf = true) : 0 ≤ a ∧ a ≤ 65535 := by
  simpa [Lit.wf, IntKind.min, IntKind.max, IntKind.signed, IntKind.bits] using h
theorem UndoLimit (a0 a1 a2 : Int) (w : World) (h0 : (Lit.int .u16 a0).wf = true) (h1 : (Lit.int .u16 a1).wf = true) (h2 : (Lit.int .u16 a2).wf = true) :
    Calls Try.prog 10 #[.int .u16 a0, .int .u16 a1, .int .u16 a2] w fun r w' => r = .returned (.bool true) ∧ Below w.heap.size w w' := Hist.limit_walk a0 a1 a2 w (u16_of h0) (u16_of h1) (u16_of h2)
end Go.Proofs.Ytnmgcghbfnpofaa.Walk
