-- Written by a program of this session (regroup.py)
import Derived.Test.YtnmgcghbfnpofaaA0
import Derived.Test.YtnmgcghbfnpofaaA27
namespace Go.Proofs.Ytnmgcghbfnpofaa.PAll
open Go.RowKit Go.Proofs.YtnmgcghbfnpofaaW.PrintWords Go.Proofs.YtnmgcghbfnpofaaW.PrintLast Go.Proofs.YtnmgcghbfnpofaaW.PrintMore
attribute [local go_sem] max2_int min2_int max_two min_two max_three min_three max_four min_four
set_option linter.unusedVariables false
set_option linter.unusedSimpArgs false
attribute [local go_sem high] eqA31

/-! ### emendateref03_ApplyAll: function 40 -/
def emendateref03_ApplyAll.l0 : Nat → ByteArray → List (S31) → Int → Option (ByteArray × Int)
  | 0, _, _, _ => none
  | k + 1, x0, x1, x6 => if x6 < (x1.length : Int) then (if 0 ≤ x6 then ((emendateref03_Apply.f x0 ((rd_T31 x1 x6).f0) ((rd_T31 x1 x6).f1) ((rd_T31 x1 x6).f2)).bind fun bt328 => (if bt328.2 = 0 then (emendateref03_ApplyAll.l0 k bt328.1 x1 (wrap64 (x6 + 1))) else (some ((⟨#[]⟩ : ByteArray), bt328.2)))) else (none)) else (some (x0, 0))
def emendateref03_ApplyAll.f (k : Nat) (a0 : ByteArray) (l1 : List (S31)) : Option (ByteArray × Int) := emendateref03_ApplyAll.l0 k a0 l1 0
theorem emendateref03_ApplyAll.mono_l : ∀ k, (∀ y0 y1 y2, LeO (emendateref03_ApplyAll.l0 k y0 y1 y2) (emendateref03_ApplyAll.l0 (k + 1) y0 y1 y2))
  | 0 => fun _ _ _ r h => by simp [emendateref03_ApplyAll.l0] at h
  | k + 1 => by
    have ih0 := emendateref03_ApplyAll.mono_l k
    · intro y0 y1 y2
      unfold emendateref03_ApplyAll.l0
      repeat' first
      | (with_reducible exact ih0 _ _ _)
      | (with_reducible exact LeO.refl _)
      | (with_reducible exact LeO.none _)
      | (with_reducible refine LeO.ite ?_ ?_)
      | (with_reducible refine LeO.bind ?_ (fun _ => ?_))
      | exact ih0 _ _ _
      | exact LeO.none _
      | refine LeO.ite ?_ ?_
      | refine LeO.bind ?_ (fun _ => ?_)
theorem emendateref03_ApplyAll.mono : ∀ a0 a1 k, LeO (emendateref03_ApplyAll.f k a0 a1) (emendateref03_ApplyAll.f (k + 1) a0 a1) := by
  intro a0 a1 k
  have ih0 := emendateref03_ApplyAll.mono_l k
  unfold emendateref03_ApplyAll.f
  repeat' first
      | (with_reducible exact ih0 _ _ _)
      | (with_reducible exact LeO.refl _)
      | (with_reducible exact LeO.none _)
      | (with_reducible refine LeO.ite ?_ ?_)
      | (with_reducible refine LeO.bind ?_ (fun _ => ?_))
      | exact ih0 _ _ _
      | exact LeO.none _
      | refine LeO.ite ?_ ?_
      | refine LeO.bind ?_ (fun _ => ?_)
set_option maxHeartbeats 8000000 in
set_option maxRecDepth 100000 in
theorem emendateref03_ApplyAll.calls (k : Nat) (a0 : ByteArray) (A1 : Option Addr) (c1 : Nat) (l1 : List (S31)) (r1 : ByteArray) (r2 : Int) (w : World) (hr1 : Kd.C k31 w A1 l1.length l1) (hc1 : l1.length ≤ c1) (h : emendateref03_ApplyAll.f k a0 l1 = some (r1, r2)) :
    Calls Try.prog 40 #[.string a0, .slice A1 l1.length c1] w fun e w' => e = .returned (.tuple #[.string r1, .int .i64 r2]) ∧ Below w.heap.size w w' := by
  have hu31 := Try.underlying31
  have HR1 := Aside0.mk hr1
  have HC1 := Aside0.mk hc1
  clear hr1 hc1
  have HB := Aside0.mk (Below.refl w.heap.size w)
  have H : (emendateref03_ApplyAll.l0 k a0 l1 0) = some (r1, r2) := h
  clear h
  have H' := Aside0.mk H
  clear H
  go_enter Try.func40, Try.ntmps40
  go_wp2
  go_loopg [0, 6] k (fun kq v0 v6 w' => ∃ (x0_1 : ByteArray) (x6_1 : Int), v0 = .string x0_1 ∧ v6 = .int .i64 x6_1 ∧ Aside0 (emendateref03_ApplyAll.l0 kq x0_1 l1 x6_1 = some (r1, r2)) ∧ Aside0 (kq ≤ k) ∧ Aside0 (Below w.heap.size w w'))
  case atStart => exact ⟨(a0), (0), (by first | rfl | (simp; done) | (simp [*]; done)), (by first | rfl | (simp; done) | (simp [*]; done)), H', ⟨Nat.le_refl _⟩, ⟨by repeat (first | (with_reducible first | exact HB.out | apply below_alloc | apply pw_below_drewN | apply below_drew1) | exact HB.out)⟩⟩
  case round =>
    clear H'
    try clear c1
    try clear p2
    obtain ⟨x0_1, x6_1, rfl, rfl, HA, HK1, HB⟩ := hrel
    cases gk with
    | zero => exact absurd HA.out (by simp [emendateref03_ApplyAll.l0])
    | succ k1 =>
      have H := HA.out
      clear HA
      simp only [emendateref03_ApplyAll.l0] at H
      by_cases c3 : x6_1 < (l1.length : Int)
      · rw [if_pos c3] at H
        have c3b0 : decide (x6_1 < (l1.length : Int)) = true := decide_eq_true c3
        clear c3
        by_cases c4 : 0 ≤ x6_1
        · rw [if_pos c4] at H
          have c4b0 : decide (0 ≤ x6_1) = true := decide_eq_true c4
          clear c4
          replace H := Option.bind_eq_some_iff.mp H
          obtain ⟨⟨t328, t329⟩, A50, H⟩ := H
          replace H : (if t329 = 0 then (emendateref03_ApplyAll.l0 k1 t328 l1 (wrap64 (x6_1 + 1))) else (some ((⟨#[]⟩ : ByteArray), t329))) = some (r1, r2) := H
          have A5 := Aside0.mk A50
          clear A50
          by_cases c6 : t329 = 0
          · rw [if_pos c6] at H
            have c6b0 : (t329 == 0) = true := beq_iff_eq.mpr c6
            have c6b1 : (t329 != 0) = false := bne_eq_false_iff_eq.mpr c6
            clear c6
            have H' := Aside0.mk H
            clear H
            have p327 : 0 ≤ (x6_1 : Int) := of_decide_eq_true (by first | (with_reducible assumption) | assumption)
            have q327 : x6_1 < (l1.length : Int) := of_decide_eq_true (by first | (with_reducible assumption) | assumption)
            obtain ⟨ad327, e327, hx327_0, hx327_1, hx327_2⟩ := at_T31 HR1.out x6_1 p327 q327
            cases e327
            replace hx327_0 := (HB.out.cell (World.block_lt_of_cell? w _ hx327_0)).trans hx327_0
            replace hx327_1 := (HB.out.cell (World.block_lt_of_cell? w _ hx327_1)).trans hx327_1
            replace hx327_2 := (HB.out.cell (World.block_lt_of_cell? w _ hx327_2)).trans hx327_2
            replace p327 := eq_true p327
            replace q327 := eq_true q327
            go_wp2_with (first | ((with_reducible refine gate_callee (f := 27) rfl ?_); refine goesL_ (some 21) rfl rfl Try.func27 (by kernel_rfl) rfl #[.string x0_1, .agg #[.int .i64 ((rd_T31 l1 x6_1).f0), .int .i64 ((rd_T31 l1 x6_1).f1), .string ((rd_T31 l1 x6_1).f2)]] rfl (by (try simp only [List.map_toArray, List.map_cons, List.map_nil]); first | done | rfl | (simp only [List.length_drop, List.length_take]; rfl)) ?_; (with_reducible refine (emendateref03_Apply.calls x0_1 ((rd_T31 l1 x6_1).f0) ((rd_T31 l1 x6_1).f1) ((rd_T31 l1 x6_1).f2) t328 t329 _ A5.out).mono ?_); rintro e w7 ⟨rfl, hb⟩; refine ⟨_, rfl, ?_⟩; have n0_ := Aside0.mk (below_step (by repeat (first | (with_reducible first | exact HB.out | apply below_alloc | apply pw_below_drewN | apply below_drew1) | exact HB.out)) hb); clear HB; have HB := n0_; clear n0_; (try clear hb); (try clear hb2); (try clear hk); (try clear hi)))
            go_roundg k1
            case measure => have := HK1.out; omega
            case rel => exact ⟨(t328), (wrap64 (x6_1 + 1)), (by first | rfl | (simp; done) | (simp [*]; done)), (by first | rfl | (simp; done) | (simp [*]; done)), H', ⟨by have := HK1.out; omega⟩, ⟨by repeat (first | (with_reducible first | exact HB.out | apply below_alloc | apply pw_below_drewN | apply below_drew1) | exact HB.out)⟩⟩
          · rw [if_neg c6] at H
            have c6b0 : (t329 == 0) = false := beq_eq_false_iff_ne.mpr c6
            have c6b1 : (t329 != 0) = true := bne_iff_ne.mpr c6
            simp only [Option.some.injEq, Prod.mk.injEq] at H
            obtain ⟨rfl, rfl⟩ := H
            have p327 : 0 ≤ (x6_1 : Int) := of_decide_eq_true (by first | (with_reducible assumption) | assumption)
            have q327 : x6_1 < (l1.length : Int) := of_decide_eq_true (by first | (with_reducible assumption) | assumption)
            obtain ⟨ad327, e327, hx327_0, hx327_1, hx327_2⟩ := at_T31 HR1.out x6_1 p327 q327
            cases e327
            replace hx327_0 := (HB.out.cell (World.block_lt_of_cell? w _ hx327_0)).trans hx327_0
            replace hx327_1 := (HB.out.cell (World.block_lt_of_cell? w _ hx327_1)).trans hx327_1
            replace hx327_2 := (HB.out.cell (World.block_lt_of_cell? w _ hx327_2)).trans hx327_2
            replace p327 := eq_true p327
            replace q327 := eq_true q327
            go_wp2_with (first | ((with_reducible refine gate_callee (f := 27) rfl ?_); refine goesL_ (some 21) rfl rfl Try.func27 (by kernel_rfl) rfl #[.string x0_1, .agg #[.int .i64 ((rd_T31 l1 x6_1).f0), .int .i64 ((rd_T31 l1 x6_1).f1), .string ((rd_T31 l1 x6_1).f2)]] rfl (by (try simp only [List.map_toArray, List.map_cons, List.map_nil]); first | done | rfl | (simp only [List.length_drop, List.length_take]; rfl)) ?_; (with_reducible refine (emendateref03_Apply.calls x0_1 ((rd_T31 l1 x6_1).f0) ((rd_T31 l1 x6_1).f1) ((rd_T31 l1 x6_1).f2) t328 t329 _ A5.out).mono ?_); rintro e w8 ⟨rfl, hb⟩; refine ⟨_, rfl, ?_⟩; have n0_ := Aside0.mk (below_step (by repeat (first | (with_reducible first | exact HB.out | apply below_alloc | apply pw_below_drewN | apply below_drew1) | exact HB.out)) hb); clear HB; have HB := n0_; clear n0_; (try clear hb); (try clear hb2); (try clear hk); (try clear hi)))
            go_ret2
            exact ⟨by first | rfl | (simp [errW_none, errW_some] <;> rfl) | (simp [*, errW_none, errW_some] <;> rfl), by repeat (first | (with_reducible first | exact HB.out | apply below_alloc | apply pw_below_drewN | apply below_drew1) | exact HB.out)⟩
        · rw [if_neg c4] at H
          exact absurd H (by simp)
      · rw [if_neg c3] at H
        have c3b0 : decide (x6_1 < (l1.length : Int)) = false := decide_eq_false c3
        clear c3
        simp only [Option.some.injEq, Prod.mk.injEq] at H
        obtain ⟨rfl, rfl⟩ := H
        go_wp2
        go_ret2
        exact ⟨by first | rfl | (simp [errW_none, errW_some] <;> rfl) | (simp [*, errW_none, errW_some] <;> rfl), by repeat (first | (with_reducible first | exact HB.out | apply below_alloc | apply pw_below_drewN | apply below_drew1) | exact HB.out)⟩

end Go.Proofs.Ytnmgcghbfnpofaa.PAll
