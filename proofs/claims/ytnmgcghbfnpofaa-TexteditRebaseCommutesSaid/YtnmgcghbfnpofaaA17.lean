-- Written by a program of this session (regroup.py)
import Derived.Test.YtnmgcghbfnpofaaA0
import Derived.Test.YtnmgcghbfnpofaaA33
import Derived.Test.YtnmgcghbfnpofaaA35
import Derived.Test.YtnmgcghbfnpofaaA43
import Derived.Test.YtnmgcghbfnpofaaA31
import Derived.Test.YtnmgcghbfnpofaaA32
namespace Go.Proofs.Ytnmgcghbfnpofaa.PAll
open Go.RowKit Go.Proofs.YtnmgcghbfnpofaaW.PrintWords Go.Proofs.YtnmgcghbfnpofaaW.PrintLast Go.Proofs.YtnmgcghbfnpofaaW.PrintMore
attribute [local go_sem] max2_int min2_int max_two min_two max_three min_three max_four min_four
set_option linter.unusedVariables false
set_option linter.unusedSimpArgs false

/-! ### emendatelaw03_TexteditRebaseCommutes: function 17 -/
mutual
def emendatelaw03_TexteditRebaseCommutes.j0 : Nat → ByteArray → Bool → Int → Int → ByteArray → Int → Int → ByteArray → Option (Bool)
  | 0, _, _, _, _, _, _, _, _ => none
  | k + 1, x0, x34, x404000, x404001, x404002, x405000, x405001, x405002 => if x34 = true then (some true) else ((textedit_Rebase.f k x404000 x404001 x404002 x405000 x405001 x405002).bind fun bt412 => ((textedit_Rebase.f k x405000 x405001 x405002 x404000 x404001 x404002).bind fun bt417 => (if (bt412.2.2.2 != bt417.2.2.2) = true then (some false) else (if bt412.2.2.2 = true then (if x404001 = 0 then (if x405001 = 0 then (emendatelaw03_TexteditRebaseCommutes.j1 k x0 (x404000 == x405000) x404000 x404001 x404002 x405000 x405001 x405002 bt412.1 bt412.2.1 bt412.2.2.1 bt417.1 bt417.2.1 bt417.2.2.1) else (emendatelaw03_TexteditRebaseCommutes.j1 k x0 false x404000 x404001 x404002 x405000 x405001 x405002 bt412.1 bt412.2.1 bt412.2.2.1 bt417.1 bt417.2.1 bt417.2.2.1)) else (emendatelaw03_TexteditRebaseCommutes.j1 k x0 false x404000 x404001 x404002 x405000 x405001 x405002 bt412.1 bt412.2.1 bt412.2.2.1 bt417.1 bt417.2.1 bt417.2.2.1)) else (emendatelaw03_TexteditRebaseCommutes.j1 k x0 true x404000 x404001 x404002 x405000 x405001 x405002 bt412.1 bt412.2.1 bt412.2.2.1 bt417.1 bt417.2.1 bt417.2.2.1)))))
def emendatelaw03_TexteditRebaseCommutes.j1 : Nat → ByteArray → Bool → Int → Int → ByteArray → Int → Int → ByteArray → Int → Int → ByteArray → Int → Int → ByteArray → Option (Bool)
  | 0, _, _, _, _, _, _, _, _, _, _, _, _, _, _ => none
  | k + 1, x0, x68, x404000, x404001, x404002, x405000, x405001, x405002, x417000, x417001, x417002, x422000, x422001, x422002 => if x68 = true then (some true) else ((textedit_ApplyAll.f k x0 (([(⟨x404000, x404001, x404002⟩ : S31), (⟨x422000, x422001, x422002⟩ : S31)] : List (S31)))).bind fun bt425 => ((textedit_ApplyAll.f k x0 (([(⟨x405000, x405001, x405002⟩ : S31), (⟨x417000, x417001, x417002⟩ : S31)] : List (S31)))).bind fun bt430 => (if bt425.2 = 0 then (if bt430.2 = 0 then (some (bt425.1.toList == bt430.1.toList)) else (some false)) else (some false))))
end
def emendatelaw03_TexteditRebaseCommutes.f (k : Nat) (a0 : ByteArray) (a1_0 : Int) (a1_1 : Int) (a1_2 : ByteArray) (a2_0 : Int) (a2_1 : Int) (a2_2 : ByteArray) : Option (Bool) := (emendatelaw03_awake.f k).bind fun t405 => (if t405 = true then ((emendatelaw03_few.f k a0 (([(⟨a1_0, a1_1, a1_2⟩ : S31), (⟨a2_0, a2_1, a2_2⟩ : S31)] : List (S31)))).bind fun t409 => (if t409 = true then ((emendateref03_Fits.f a0 a1_0 a1_1 a1_2).bind fun t410 => (if t410 = true then ((emendateref03_Fits.f a0 a2_0 a2_1 a2_2).bind fun t411 => (emendatelaw03_TexteditRebaseCommutes.j0 k a0 (!t411) a1_0 a1_1 a1_2 a2_0 a2_1 a2_2)) else (emendatelaw03_TexteditRebaseCommutes.j0 k a0 true a1_0 a1_1 a1_2 a2_0 a2_1 a2_2))) else (emendatelaw03_TexteditRebaseCommutes.j0 k a0 true a1_0 a1_1 a1_2 a2_0 a2_1 a2_2))) else (some false))
theorem emendatelaw03_TexteditRebaseCommutes.mono_l : ∀ k, (∀ y0 y1 y2 y3 y4 y5 y6 y7, LeO (emendatelaw03_TexteditRebaseCommutes.j0 k y0 y1 y2 y3 y4 y5 y6 y7) (emendatelaw03_TexteditRebaseCommutes.j0 (k + 1) y0 y1 y2 y3 y4 y5 y6 y7)) ∧ (∀ y0 y1 y2 y3 y4 y5 y6 y7 y8 y9 y10 y11 y12 y13, LeO (emendatelaw03_TexteditRebaseCommutes.j1 k y0 y1 y2 y3 y4 y5 y6 y7 y8 y9 y10 y11 y12 y13) (emendatelaw03_TexteditRebaseCommutes.j1 (k + 1) y0 y1 y2 y3 y4 y5 y6 y7 y8 y9 y10 y11 y12 y13))
  | 0 => ⟨fun _ _ _ _ _ _ _ _ r h => by simp [emendatelaw03_TexteditRebaseCommutes.j0] at h, fun _ _ _ _ _ _ _ _ _ _ _ _ _ _ r h => by simp [emendatelaw03_TexteditRebaseCommutes.j1] at h⟩
  | k + 1 => by
    obtain ⟨ih0, ih1⟩ := emendatelaw03_TexteditRebaseCommutes.mono_l k
    refine ⟨?_, ?_⟩
    · intro y0 y1 y2 y3 y4 y5 y6 y7
      unfold emendatelaw03_TexteditRebaseCommutes.j0
      repeat' first
      | (with_reducible exact ih0 _ _ _ _ _ _ _ _)
      | (with_reducible exact ih1 _ _ _ _ _ _ _ _ _ _ _ _ _ _)
      | (with_reducible exact emendatelaw03_awake.mono _)
      | (with_reducible exact emendatelaw03_few.mono _ _ _)
      | (with_reducible exact textedit_ApplyAll.mono _ _ _)
      | (with_reducible exact textedit_Rebase.mono _ _ _ _ _ _ _)
      | (with_reducible exact LeO.refl _)
      | (with_reducible exact LeO.none _)
      | (with_reducible refine LeO.ite ?_ ?_)
      | (with_reducible refine LeO.bind ?_ (fun _ => ?_))
      | exact ih0 _ _ _ _ _ _ _ _
      | exact ih1 _ _ _ _ _ _ _ _ _ _ _ _ _ _
      | exact emendatelaw03_awake.mono _
      | exact emendatelaw03_few.mono _ _ _
      | exact textedit_ApplyAll.mono _ _ _
      | exact textedit_Rebase.mono _ _ _ _ _ _ _
      | exact LeO.none _
      | refine LeO.ite ?_ ?_
      | refine LeO.bind ?_ (fun _ => ?_)
    · intro y0 y1 y2 y3 y4 y5 y6 y7 y8 y9 y10 y11 y12 y13
      unfold emendatelaw03_TexteditRebaseCommutes.j1
      repeat' first
      | (with_reducible exact ih0 _ _ _ _ _ _ _ _)
      | (with_reducible exact ih1 _ _ _ _ _ _ _ _ _ _ _ _ _ _)
      | (with_reducible exact emendatelaw03_awake.mono _)
      | (with_reducible exact emendatelaw03_few.mono _ _ _)
      | (with_reducible exact textedit_ApplyAll.mono _ _ _)
      | (with_reducible exact textedit_Rebase.mono _ _ _ _ _ _ _)
      | (with_reducible exact LeO.refl _)
      | (with_reducible exact LeO.none _)
      | (with_reducible refine LeO.ite ?_ ?_)
      | (with_reducible refine LeO.bind ?_ (fun _ => ?_))
      | exact ih0 _ _ _ _ _ _ _ _
      | exact ih1 _ _ _ _ _ _ _ _ _ _ _ _ _ _
      | exact emendatelaw03_awake.mono _
      | exact emendatelaw03_few.mono _ _ _
      | exact textedit_ApplyAll.mono _ _ _
      | exact textedit_Rebase.mono _ _ _ _ _ _ _
      | exact LeO.none _
      | refine LeO.ite ?_ ?_
      | refine LeO.bind ?_ (fun _ => ?_)
theorem emendatelaw03_TexteditRebaseCommutes.mono : ∀ a0 a1 a2 a3 a4 a5 a6 k, LeO (emendatelaw03_TexteditRebaseCommutes.f k a0 a1 a2 a3 a4 a5 a6) (emendatelaw03_TexteditRebaseCommutes.f (k + 1) a0 a1 a2 a3 a4 a5 a6) := by
  intro a0 a1 a2 a3 a4 a5 a6 k
  obtain ⟨ih0, ih1⟩ := emendatelaw03_TexteditRebaseCommutes.mono_l k
  unfold emendatelaw03_TexteditRebaseCommutes.f
  repeat' first
      | (with_reducible exact ih0 _ _ _ _ _ _ _ _)
      | (with_reducible exact ih1 _ _ _ _ _ _ _ _ _ _ _ _ _ _)
      | (with_reducible exact emendatelaw03_awake.mono _)
      | (with_reducible exact emendatelaw03_few.mono _ _ _)
      | (with_reducible exact textedit_ApplyAll.mono _ _ _)
      | (with_reducible exact textedit_Rebase.mono _ _ _ _ _ _ _)
      | (with_reducible exact LeO.refl _)
      | (with_reducible exact LeO.none _)
      | (with_reducible refine LeO.ite ?_ ?_)
      | (with_reducible refine LeO.bind ?_ (fun _ => ?_))
      | exact ih0 _ _ _ _ _ _ _ _
      | exact ih1 _ _ _ _ _ _ _ _ _ _ _ _ _ _
      | exact emendatelaw03_awake.mono _
      | exact emendatelaw03_few.mono _ _ _
      | exact textedit_ApplyAll.mono _ _ _
      | exact textedit_Rebase.mono _ _ _ _ _ _ _
      | exact LeO.none _
      | refine LeO.ite ?_ ?_
      | refine LeO.bind ?_ (fun _ => ?_)
set_option maxHeartbeats 8000000 in
set_option maxRecDepth 100000 in
theorem emendatelaw03_TexteditRebaseCommutes.calls (k : Nat) (a0 : ByteArray) (a1_0 : Int) (a1_1 : Int) (a1_2 : ByteArray) (a2_0 : Int) (a2_1 : Int) (a2_2 : ByteArray) (r : Bool) (w : World) (h : emendatelaw03_TexteditRebaseCommutes.f k a0 a1_0 a1_1 a1_2 a2_0 a2_1 a2_2 = some r) :
    Calls Try.prog 17 #[.string a0, .agg #[.int .i64 a1_0, .int .i64 a1_1, .string a1_2], .agg #[.int .i64 a2_0, .int .i64 a2_1, .string a2_2]] w fun e w' => e = .returned (.bool r) ∧ Below w.heap.size w w' := by
  have hu31 := Try.underlying31
  have HB := Aside0.mk (Below.refl w.heap.size w)
  have H : ((emendatelaw03_awake.f k).bind fun t405 => (if t405 = true then ((emendatelaw03_few.f k a0 (([(⟨a1_0, a1_1, a1_2⟩ : S31), (⟨a2_0, a2_1, a2_2⟩ : S31)] : List (S31)))).bind fun t409 => (if t409 = true then ((emendateref03_Fits.f a0 a1_0 a1_1 a1_2).bind fun t410 => (if t410 = true then ((emendateref03_Fits.f a0 a2_0 a2_1 a2_2).bind fun t411 => (emendatelaw03_TexteditRebaseCommutes.j0 k a0 (!t411) a1_0 a1_1 a1_2 a2_0 a2_1 a2_2)) else (emendatelaw03_TexteditRebaseCommutes.j0 k a0 true a1_0 a1_1 a1_2 a2_0 a2_1 a2_2))) else (emendatelaw03_TexteditRebaseCommutes.j0 k a0 true a1_0 a1_1 a1_2 a2_0 a2_1 a2_2))) else (some false))) = some r := h
  clear h
  replace H := Option.bind_eq_some_iff.mp H
  obtain ⟨t405, A40, H⟩ := H
  replace H : (if t405 = true then ((emendatelaw03_few.f k a0 (([(⟨a1_0, a1_1, a1_2⟩ : S31), (⟨a2_0, a2_1, a2_2⟩ : S31)] : List (S31)))).bind fun t409 => (if t409 = true then ((emendateref03_Fits.f a0 a1_0 a1_1 a1_2).bind fun t410 => (if t410 = true then ((emendateref03_Fits.f a0 a2_0 a2_1 a2_2).bind fun t411 => (emendatelaw03_TexteditRebaseCommutes.j0 k a0 (!t411) a1_0 a1_1 a1_2 a2_0 a2_1 a2_2)) else (emendatelaw03_TexteditRebaseCommutes.j0 k a0 true a1_0 a1_1 a1_2 a2_0 a2_1 a2_2))) else (emendatelaw03_TexteditRebaseCommutes.j0 k a0 true a1_0 a1_1 a1_2 a2_0 a2_1 a2_2))) else (some false)) = some r := H
  have A4 := Aside0.mk A40
  clear A40
  by_cases c5 : t405 = true
  · subst c5
    have H1 : ((emendatelaw03_few.f k a0 (([(⟨a1_0, a1_1, a1_2⟩ : S31), (⟨a2_0, a2_1, a2_2⟩ : S31)] : List (S31)))).bind fun t409 => (if t409 = true then ((emendateref03_Fits.f a0 a1_0 a1_1 a1_2).bind fun t410 => (if t410 = true then ((emendateref03_Fits.f a0 a2_0 a2_1 a2_2).bind fun t411 => (emendatelaw03_TexteditRebaseCommutes.j0 k a0 (!t411) a1_0 a1_1 a1_2 a2_0 a2_1 a2_2)) else (emendatelaw03_TexteditRebaseCommutes.j0 k a0 true a1_0 a1_1 a1_2 a2_0 a2_1 a2_2))) else (emendatelaw03_TexteditRebaseCommutes.j0 k a0 true a1_0 a1_1 a1_2 a2_0 a2_1 a2_2))) = some r := by rw [if_pos rfl] at H; exact H
    clear H
    have H := H1
    clear H1
    have HC6 := Aside0.mk H
    clear H
    go_enter Try.func17, Try.ntmps17
    go_upto_region 3 with (first | ((with_reducible refine gate_dst (N := 4) rfl ?_); refine box_event ?hg (N := 4) ?hd (cs := #[.int .i64 a1_0, .int .i64 a1_1, .string a1_2]) (t := 31) ?hr ?_; (case hd => rfl); (case hg => rfl); (case hr => first | (go_simp; done) | (go_simp; rfl)); intro gb403 hg w7 hbox hb; have n0_ := Aside0.mk (below_step (by repeat (first | (with_reducible first | exact HB.out | apply below_alloc | apply pw_below_drewN | apply below_drew1) | exact HB.out)) hb); have n1_ := Aside0.mk (hbox); have n2_ := Aside0.mk ((by rw [hg]; exact (below_size (by repeat (first | (with_reducible first | exact HB.out | apply below_alloc | apply pw_below_drewN | apply below_drew1) | exact HB.out))) : w.heap.size ≤ gb403)); have n3_ := Aside0.mk ((by rw [hg]; exact (below_size (by repeat (first | (with_reducible first | exact HB.out | apply below_alloc | apply pw_below_drewN | apply below_drew1) | exact HB.out))) : w.heap.size ≤ gb403)); clear HB; have HB := n0_; have BK403 := n1_; have GW403 := n2_; have GE403 := n3_; clear n0_ n1_ n2_ n3_; clear hb hbox hg) | ((with_reducible refine gate_dst (N := 5) rfl ?_); refine box_event ?hg (N := 5) ?hd (cs := #[.int .i64 a2_0, .int .i64 a2_1, .string a2_2]) (t := 31) ?hr ?_; (case hd => rfl); (case hg => rfl); (case hr => first | (go_simp; done) | (go_simp; rfl)); intro gb404 hg w8 hbox hb; have n0_ := Aside0.mk (blk_below (g := gb403) (o := .cells #[.int .i64 a1_0, .int .i64 a1_1, .string a1_2] 31 (0, 0)) (by (with_reducible repeat (first | refine blk_drewN ?_ _ | refine blk_drew ?_ | refine blk_alloc ?_ _)); exact BK403.out) hb); have n1_ := Aside0.mk (below_step (by repeat (first | (with_reducible first | exact HB.out | apply below_alloc | apply pw_below_drewN | apply below_drew1 | refine below_set ?_ GE403.out) | exact HB.out)) hb); have n2_ := Aside0.mk (hbox); have n3_ := Aside0.mk ((by rw [hg]; exact (below_size (by repeat (first | (with_reducible first | exact HB.out | apply below_alloc | apply pw_below_drewN | apply below_drew1 | refine below_set ?_ GE403.out) | exact HB.out))) : w.heap.size ≤ gb404)); have n4_ := Aside0.mk ((by rw [hg]; exact (below_size (by repeat (first | (with_reducible first | exact HB.out | apply below_alloc | apply pw_below_drewN | apply below_drew1 | refine below_set ?_ GE403.out) | exact HB.out))) : w.heap.size ≤ gb404)); have n5_ := Aside0.mk ((by rw [hg]; exact Nat.ne_of_lt (blk_lt (g := gb403) (o := .cells #[.int .i64 a1_0, .int .i64 a1_1, .string a1_2] 31 (0, 0)) (by (with_reducible repeat (first | refine blk_drewN ?_ _ | refine blk_drew ?_ | refine blk_alloc ?_ _)); exact BK403.out)) : gb403 ≠ gb404)); have n6_ := Aside0.mk ((by rw [hg]; exact Nat.ne_of_gt (blk_lt (g := gb403) (o := .cells #[.int .i64 a1_0, .int .i64 a1_1, .string a1_2] 31 (0, 0)) (by (with_reducible repeat (first | refine blk_drewN ?_ _ | refine blk_drew ?_ | refine blk_alloc ?_ _)); exact BK403.out)) : gb404 ≠ gb403)); clear BK403; clear HB; have BK403 := n0_; have HB := n1_; have BK404 := n2_; have GW404 := n3_; have GE404 := n4_; have NB403_404 := n5_; have NB404_403 := n6_; clear n0_ n1_ n2_ n3_ n4_ n5_ n6_; clear hb hbox hg) | ((with_reducible refine gate_callee (f := 31) rfl ?_); refine goesL_ (some 15) rfl rfl Try.func31 (by kernel_rfl) rfl #[] rfl (by (try simp only [List.map_toArray, List.map_cons, List.map_nil]); first | done | rfl | (simp only [List.length_drop, List.length_take]; rfl)) ?_; (with_reducible refine (emendatelaw03_awake.calls k  true _ A4.out).mono ?_); rintro e w9 ⟨rfl, hb⟩; refine ⟨_, rfl, ?_⟩; have n0_ := Aside0.mk (blk_below (g := gb403) (o := .cells #[.int .i64 a1_0, .int .i64 a1_1, .string a1_2] 31 (0, 0)) (by (with_reducible repeat (first | refine blk_drewN ?_ _ | refine blk_drew ?_ | refine blk_alloc ?_ _)); exact BK403.out) hb); have n1_ := Aside0.mk (blk_below (g := gb404) (o := .cells #[.int .i64 a2_0, .int .i64 a2_1, .string a2_2] 31 (0, 0)) (by (with_reducible repeat (first | refine blk_drewN ?_ _ | refine blk_drew ?_ | refine blk_alloc ?_ _)); exact BK404.out) hb); have n2_ := Aside0.mk (below_step (by repeat (first | (with_reducible first | exact HB.out | apply below_alloc | apply pw_below_drewN | apply below_drew1 | refine below_set ?_ GE403.out | refine below_set ?_ GE404.out) | exact HB.out)) hb); clear BK403; clear BK404; clear HB; have BK403 := n0_; have BK404 := n1_; have HB := n2_; clear n0_ n1_ n2_; (try clear hb); (try clear hb2); (try clear hk); (try clear hi)))
    (try simp only [Act.put, List.setIfInBounds_toArray, List.set_cons_zero, List.set_cons_succ])
    go_cut [34] (fun v34 wc => ∃ (kq : Nat) (x34_5 : Bool), v34 = .bool x34_5 ∧ Aside0 (emendatelaw03_TexteditRebaseCommutes.j0 kq a0 x34_5 a1_0 a1_1 a1_2 a2_0 a2_1 a2_2 = some r) ∧ Aside0 (kq ≤ k) ∧ Aside0 (wc.heap[gb403]? = some (.cells #[.int .i64 a1_0, .int .i64 a1_1, .string a1_2] 31 (0, 0))) ∧ Aside0 (wc.heap[gb404]? = some (.cells #[.int .i64 a2_0, .int .i64 a2_1, .string a2_2] 31 (0, 0))) ∧ Aside0 (Below w.heap.size w wc))
    case first =>
      have H := HC6.out
      clear HC6
      obtain ⟨y406, hy406⟩ : ∃ y_ : List (S31), y_ = (([(⟨a1_0, a1_1, a1_2⟩ : S31), (⟨a2_0, a2_1, a2_2⟩ : S31)] : List (S31))) := ⟨_, rfl⟩
      replace H : ((emendatelaw03_few.f k a0 y406).bind fun t409 => (if t409 = true then ((emendateref03_Fits.f a0 a1_0 a1_1 a1_2).bind fun t410 => (if t410 = true then ((emendateref03_Fits.f a0 a2_0 a2_1 a2_2).bind fun t411 => (emendatelaw03_TexteditRebaseCommutes.j0 k a0 (!t411) a1_0 a1_1 a1_2 a2_0 a2_1 a2_2)) else (emendatelaw03_TexteditRebaseCommutes.j0 k a0 true a1_0 a1_1 a1_2 a2_0 a2_1 a2_2))) else (emendatelaw03_TexteditRebaseCommutes.j0 k a0 true a1_0 a1_1 a1_2 a2_0 a2_1 a2_2))) = some r := by first | (rw [hy406]; with_reducible exact H) | (have H2_ := (Option.bind_some _ _).symm.trans H; rw [hy406]; with_reducible exact H2_) | (have H2_ := (Option.bind_some _ _).symm.trans H; with_reducible exact H2_) | with_reducible exact H | (rw [hy406]; exact H) | exact H
      have Ny406 := Aside0.mk hy406
      clear hy406
      replace H := Option.bind_eq_some_iff.mp H
      obtain ⟨t409, A100, H⟩ := H
      replace H : (if t409 = true then ((emendateref03_Fits.f a0 a1_0 a1_1 a1_2).bind fun t410 => (if t410 = true then ((emendateref03_Fits.f a0 a2_0 a2_1 a2_2).bind fun t411 => (emendatelaw03_TexteditRebaseCommutes.j0 k a0 (!t411) a1_0 a1_1 a1_2 a2_0 a2_1 a2_2)) else (emendatelaw03_TexteditRebaseCommutes.j0 k a0 true a1_0 a1_1 a1_2 a2_0 a2_1 a2_2))) else (emendatelaw03_TexteditRebaseCommutes.j0 k a0 true a1_0 a1_1 a1_2 a2_0 a2_1 a2_2)) = some r := H
      have A10 := Aside0.mk A100
      clear A100
      by_cases c11 : t409 = true
      · subst c11
        have H1 : ((emendateref03_Fits.f a0 a1_0 a1_1 a1_2).bind fun t410 => (if t410 = true then ((emendateref03_Fits.f a0 a2_0 a2_1 a2_2).bind fun t411 => (emendatelaw03_TexteditRebaseCommutes.j0 k a0 (!t411) a1_0 a1_1 a1_2 a2_0 a2_1 a2_2)) else (emendatelaw03_TexteditRebaseCommutes.j0 k a0 true a1_0 a1_1 a1_2 a2_0 a2_1 a2_2))) = some r := by rw [if_pos rfl] at H; exact H
        clear H
        have H := H1
        clear H1
        replace H := Option.bind_eq_some_iff.mp H
        obtain ⟨t410, A120, H⟩ := H
        replace H : (if t410 = true then ((emendateref03_Fits.f a0 a2_0 a2_1 a2_2).bind fun t411 => (emendatelaw03_TexteditRebaseCommutes.j0 k a0 (!t411) a1_0 a1_1 a1_2 a2_0 a2_1 a2_2)) else (emendatelaw03_TexteditRebaseCommutes.j0 k a0 true a1_0 a1_1 a1_2 a2_0 a2_1 a2_2)) = some r := H
        have A12 := Aside0.mk A120
        clear A120
        by_cases c13 : t410 = true
        · subst c13
          have H1 : ((emendateref03_Fits.f a0 a2_0 a2_1 a2_2).bind fun t411 => (emendatelaw03_TexteditRebaseCommutes.j0 k a0 (!t411) a1_0 a1_1 a1_2 a2_0 a2_1 a2_2)) = some r := by rw [if_pos rfl] at H; exact H
          clear H
          have H := H1
          clear H1
          replace H := Option.bind_eq_some_iff.mp H
          obtain ⟨t411, A140, H⟩ := H
          replace H : (emendatelaw03_TexteditRebaseCommutes.j0 k a0 (!t411) a1_0 a1_1 a1_2 a2_0 a2_1 a2_2) = some r := H
          have A14 := Aside0.mk A140
          clear A140
          have H' := Aside0.mk H
          clear H
          have hnb15 := NB403_404.out
          have hnc15 := NB404_403.out
          have hcz16_0 : w9.cell? ⟨gb403, 0, none⟩ = some (.int .i64 a1_0) := (blk_cell BK403.out 0).trans rfl
          have hcz16_1 : w9.cell? ⟨gb403, 1, none⟩ = some (.int .i64 a1_1) := (blk_cell BK403.out 1).trans rfl
          have hcz16_2 : w9.cell? ⟨gb403, 2, none⟩ = some (.string a1_2) := (blk_cell BK403.out 2).trans rfl
          have hfz16_0 := blk_frozen BK403.out 0
          have hfz16_1 := blk_frozen BK403.out 1
          have hfz16_2 := blk_frozen BK403.out 2
          have hcz17_0 : w9.cell? ⟨gb404, 0, none⟩ = some (.int .i64 a2_0) := (blk_cell BK404.out 0).trans rfl
          have hcz17_1 : w9.cell? ⟨gb404, 1, none⟩ = some (.int .i64 a2_1) := (blk_cell BK404.out 1).trans rfl
          have hcz17_2 : w9.cell? ⟨gb404, 2, none⟩ = some (.string a2_2) := (blk_cell BK404.out 2).trans rfl
          have hfz17_0 := blk_frozen BK404.out 0
          have hfz17_1 := blk_frozen BK404.out 1
          have hfz17_2 := blk_frozen BK404.out 2
          go_wp2_with (first | ((with_reducible refine gate_dst (N := 20) rfl ?_); refine Kd.R_lit k31 _ 31 ?hg (N := 20) ?hd (xs := ([(⟨a1_0, a1_1, a1_2⟩ : S31), (⟨a2_0, a2_1, a2_2⟩ : S31)] : List (S31))) (inner := [.int .i64 a1_0, .int .i64 a1_1, .string a1_2, .int .i64 a2_0, .int .i64 a2_1, .string a2_2]) (ok := fun _ => True) (okp := fun _ => True) ?hr ?hp (fun _ hk => hk) trivial (Below.refl _ _) (Nat.le_refl _) (by simp) ?_; (case hd => rfl); (case hg => rfl); (case hr => first | (go_simp; done) | (go_simp; rfl)); (case hp => exact (Reps.c3 (show Kd.M k31 _ _ _ (⟨a1_0, a1_1, a1_2⟩ : S31) [.int .i64 a1_0, .int .i64 a1_1, .string a1_2] from (k31_mkM _ _ _ (⟨a1_0, a1_1, a1_2⟩ : S31) )) (Reps.c3 (show Kd.M k31 _ _ _ (⟨a2_0, a2_1, a2_2⟩ : S31) [.int .i64 a2_0, .int .i64 a2_1, .string a2_2] from (k31_mkM _ _ _ (⟨a2_0, a2_1, a2_2⟩ : S31) )) (Reps.none _ _)))); intro v407 w18 ho19 hb hg_ hnew_; clear hg_ hnew_; (first | rw [← Ny406.out] at ho19 | (simp only [Int.reduceToNat] at ho19; rw [← Ny406.out] at ho19)); have n0_ := Aside0.mk (Kd.R_lower (Kd.R_newB (Kd.R_newB ho19 (g := gb403) (o := .cells #[.int .i64 a1_0, .int .i64 a1_1, .string a1_2] 31 (0, 0)) (by (with_reducible repeat (first | refine blk_drewN ?_ _ | refine blk_drew ?_ | refine blk_alloc ?_ _)); exact BK403.out)) (g := gb404) (o := .cells #[.int .i64 a2_0, .int .i64 a2_1, .string a2_2] 31 (0, 0)) (by (with_reducible repeat (first | refine blk_drewN ?_ _ | refine blk_drew ?_ | refine blk_alloc ?_ _)); exact BK404.out)) (below_size (by repeat (first | (with_reducible first | exact HB.out | apply below_alloc | apply pw_below_drewN | apply below_drew1 | refine below_set ?_ GE403.out | refine below_set ?_ GE404.out) | exact HB.out)))); have n1_ := Aside0.mk (blk_below (g := gb403) (o := .cells #[.int .i64 a1_0, .int .i64 a1_1, .string a1_2] 31 (0, 0)) (by (with_reducible repeat (first | refine blk_drewN ?_ _ | refine blk_drew ?_ | refine blk_alloc ?_ _)); exact BK403.out) hb); have n2_ := Aside0.mk (blk_below (g := gb404) (o := .cells #[.int .i64 a2_0, .int .i64 a2_1, .string a2_2] 31 (0, 0)) (by (with_reducible repeat (first | refine blk_drewN ?_ _ | refine blk_drew ?_ | refine blk_alloc ?_ _)); exact BK404.out) hb); have n3_ := Aside0.mk (below_step (by repeat (first | (with_reducible first | exact HB.out | apply below_alloc | apply pw_below_drewN | apply below_drew1 | refine below_set ?_ GE403.out | refine below_set ?_ GE404.out) | exact HB.out)) hb); clear BK403; clear BK404; clear HB; have HO408 := n0_; have BK403 := n1_; have BK404 := n2_; have HB := n3_; clear n0_ n1_ n2_ n3_; clear hb ho19; obtain ⟨Ao20, co20, eo20⟩ := Kd.R_slice HO408.out; subst eo20) | ((with_reducible refine gate_callee (f := 32) rfl ?_); refine goesL_ (some 21) rfl rfl Try.func32 (by kernel_rfl) rfl #[.string a0, .slice Ao20 y406.length co20] rfl (by (try simp only [List.map_toArray, List.map_cons, List.map_nil]); first | done | rfl | (simp only [List.length_drop, List.length_take]; rfl)) ?_; (with_reducible refine (emendatelaw03_few.calls k a0 _ _ y406 true _ ?side1 ?side2 A10.out).mono ?_); (case side1 => repeat (first | exact (Kd.R_reads' HO408.out).2.2 | (with_reducible refine Kd.C_alloc ?_ _) | (with_reducible refine Kd.C_drewN ?_ _) | (with_reducible refine Kd.C_drew ?_))); (case side2 => exact (Kd.R_reads' HO408.out).2.1); rintro e w' ⟨rfl, ⟨nd, rfl⟩⟩; refine ⟨_, rfl, ?_⟩; have hcz21_0 : w18.cell? ⟨gb403, 0, none⟩ = some (.int .i64 a1_0) := (blk_cell BK403.out 0).trans rfl; have hcz21_1 : w18.cell? ⟨gb403, 1, none⟩ = some (.int .i64 a1_1) := (blk_cell BK403.out 1).trans rfl; have hcz21_2 : w18.cell? ⟨gb403, 2, none⟩ = some (.string a1_2) := (blk_cell BK403.out 2).trans rfl; have hfz21_0 := blk_frozen BK403.out 0; have hfz21_1 := blk_frozen BK403.out 1; have hfz21_2 := blk_frozen BK403.out 2) | (go_at_call 33; (with_reducible refine (emendateref03_Fits.calls a0 a1_0 a1_1 a1_2 true _ A12.out).mono ?_); rintro e w22 ⟨rfl, hb⟩; have n0_ := Aside0.mk (Kd.R_below (by (with_reducible repeat (first | apply Kd.R_alloc | apply Kd.R_drewN | apply Kd.R_drew)); exact HO408.out) hb); have n1_ := Aside0.mk (blk_below (g := gb403) (o := .cells #[.int .i64 a1_0, .int .i64 a1_1, .string a1_2] 31 (0, 0)) (by (with_reducible repeat (first | refine blk_drewN ?_ _ | refine blk_drew ?_ | refine blk_alloc ?_ _)); exact BK403.out) hb); have n2_ := Aside0.mk (blk_below (g := gb404) (o := .cells #[.int .i64 a2_0, .int .i64 a2_1, .string a2_2] 31 (0, 0)) (by (with_reducible repeat (first | refine blk_drewN ?_ _ | refine blk_drew ?_ | refine blk_alloc ?_ _)); exact BK404.out) hb); have n3_ := Aside0.mk (below_step (by repeat (first | (with_reducible first | exact HB.out | apply below_alloc | apply pw_below_drewN | apply below_drew1 | refine below_set ?_ GE403.out | refine below_set ?_ GE404.out) | exact HB.out)) hb); clear HO408; clear BK403; clear BK404; clear HB; have HO408 := n0_; have BK403 := n1_; have BK404 := n2_; have HB := n3_; clear n0_ n1_ n2_ n3_; (try clear hb); (try clear hb2); (try clear hk); (try clear hi); have hcz23_0 : w22.cell? ⟨gb404, 0, none⟩ = some (.int .i64 a2_0) := (blk_cell BK404.out 0).trans rfl; have hcz23_1 : w22.cell? ⟨gb404, 1, none⟩ = some (.int .i64 a2_1) := (blk_cell BK404.out 1).trans rfl; have hcz23_2 : w22.cell? ⟨gb404, 2, none⟩ = some (.string a2_2) := (blk_cell BK404.out 2).trans rfl; have hfz23_0 := blk_frozen BK404.out 0; have hfz23_1 := blk_frozen BK404.out 1; have hfz23_2 := blk_frozen BK404.out 2) | (go_at_call 33; (with_reducible refine (emendateref03_Fits.calls a0 a2_0 a2_1 a2_2 t411 _ A14.out).mono ?_); rintro e w24 ⟨rfl, hb⟩; have n0_ := Aside0.mk (Kd.R_below (by (with_reducible repeat (first | apply Kd.R_alloc | apply Kd.R_drewN | apply Kd.R_drew)); exact HO408.out) hb); have n1_ := Aside0.mk (blk_below (g := gb403) (o := .cells #[.int .i64 a1_0, .int .i64 a1_1, .string a1_2] 31 (0, 0)) (by (with_reducible repeat (first | refine blk_drewN ?_ _ | refine blk_drew ?_ | refine blk_alloc ?_ _)); exact BK403.out) hb); have n2_ := Aside0.mk (blk_below (g := gb404) (o := .cells #[.int .i64 a2_0, .int .i64 a2_1, .string a2_2] 31 (0, 0)) (by (with_reducible repeat (first | refine blk_drewN ?_ _ | refine blk_drew ?_ | refine blk_alloc ?_ _)); exact BK404.out) hb); have n3_ := Aside0.mk (below_step (by repeat (first | (with_reducible first | exact HB.out | apply below_alloc | apply pw_below_drewN | apply below_drew1 | refine below_set ?_ GE403.out | refine below_set ?_ GE404.out) | exact HB.out)) hb); clear HO408; clear BK403; clear BK404; clear HB; have HO408 := n0_; have BK403 := n1_; have BK404 := n2_; have HB := n3_; clear n0_ n1_ n2_ n3_; (try clear hb); (try clear hb2); (try clear hk); (try clear hi)))
          go_meet
          case rel => exact ⟨_, (!t411), (by first | rfl | (simp; done) | (simp [*]; done)), H', ⟨by first | omega | exact Nat.le_refl _⟩, ⟨by (with_reducible repeat (first | refine blk_drewN ?_ _ | refine blk_drew ?_ | refine blk_alloc ?_ _)); exact BK403.out⟩, ⟨by (with_reducible repeat (first | refine blk_drewN ?_ _ | refine blk_drew ?_ | refine blk_alloc ?_ _)); exact BK404.out⟩, ⟨by repeat (first | (with_reducible first | exact HB.out | apply below_alloc | apply pw_below_drewN | apply below_drew1 | refine below_set ?_ GE403.out | refine below_set ?_ GE404.out) | exact HB.out)⟩⟩
        · replace c13 := Bool.eq_false_iff.mpr c13
          subst c13
          have H1 : (emendatelaw03_TexteditRebaseCommutes.j0 k a0 true a1_0 a1_1 a1_2 a2_0 a2_1 a2_2) = some r := by rw [if_neg (show ¬ (false = true) by decide)] at H; exact H
          clear H
          have H := H1
          clear H1
          have H' := Aside0.mk H
          clear H
          have hnb25 := NB403_404.out
          have hnc25 := NB404_403.out
          have hcz26_0 : w9.cell? ⟨gb403, 0, none⟩ = some (.int .i64 a1_0) := (blk_cell BK403.out 0).trans rfl
          have hcz26_1 : w9.cell? ⟨gb403, 1, none⟩ = some (.int .i64 a1_1) := (blk_cell BK403.out 1).trans rfl
          have hcz26_2 : w9.cell? ⟨gb403, 2, none⟩ = some (.string a1_2) := (blk_cell BK403.out 2).trans rfl
          have hfz26_0 := blk_frozen BK403.out 0
          have hfz26_1 := blk_frozen BK403.out 1
          have hfz26_2 := blk_frozen BK403.out 2
          have hcz27_0 : w9.cell? ⟨gb404, 0, none⟩ = some (.int .i64 a2_0) := (blk_cell BK404.out 0).trans rfl
          have hcz27_1 : w9.cell? ⟨gb404, 1, none⟩ = some (.int .i64 a2_1) := (blk_cell BK404.out 1).trans rfl
          have hcz27_2 : w9.cell? ⟨gb404, 2, none⟩ = some (.string a2_2) := (blk_cell BK404.out 2).trans rfl
          have hfz27_0 := blk_frozen BK404.out 0
          have hfz27_1 := blk_frozen BK404.out 1
          have hfz27_2 := blk_frozen BK404.out 2
          go_wp2_with (first | ((with_reducible refine gate_dst (N := 20) rfl ?_); refine Kd.R_lit k31 _ 31 ?hg (N := 20) ?hd (xs := ([(⟨a1_0, a1_1, a1_2⟩ : S31), (⟨a2_0, a2_1, a2_2⟩ : S31)] : List (S31))) (inner := [.int .i64 a1_0, .int .i64 a1_1, .string a1_2, .int .i64 a2_0, .int .i64 a2_1, .string a2_2]) (ok := fun _ => True) (okp := fun _ => True) ?hr ?hp (fun _ hk => hk) trivial (Below.refl _ _) (Nat.le_refl _) (by simp) ?_; (case hd => rfl); (case hg => rfl); (case hr => first | (go_simp; done) | (go_simp; rfl)); (case hp => exact (Reps.c3 (show Kd.M k31 _ _ _ (⟨a1_0, a1_1, a1_2⟩ : S31) [.int .i64 a1_0, .int .i64 a1_1, .string a1_2] from (k31_mkM _ _ _ (⟨a1_0, a1_1, a1_2⟩ : S31) )) (Reps.c3 (show Kd.M k31 _ _ _ (⟨a2_0, a2_1, a2_2⟩ : S31) [.int .i64 a2_0, .int .i64 a2_1, .string a2_2] from (k31_mkM _ _ _ (⟨a2_0, a2_1, a2_2⟩ : S31) )) (Reps.none _ _)))); intro v407 w28 ho29 hb hg_ hnew_; clear hg_ hnew_; (first | rw [← Ny406.out] at ho29 | (simp only [Int.reduceToNat] at ho29; rw [← Ny406.out] at ho29)); have n0_ := Aside0.mk (Kd.R_lower (Kd.R_newB (Kd.R_newB ho29 (g := gb403) (o := .cells #[.int .i64 a1_0, .int .i64 a1_1, .string a1_2] 31 (0, 0)) (by (with_reducible repeat (first | refine blk_drewN ?_ _ | refine blk_drew ?_ | refine blk_alloc ?_ _)); exact BK403.out)) (g := gb404) (o := .cells #[.int .i64 a2_0, .int .i64 a2_1, .string a2_2] 31 (0, 0)) (by (with_reducible repeat (first | refine blk_drewN ?_ _ | refine blk_drew ?_ | refine blk_alloc ?_ _)); exact BK404.out)) (below_size (by repeat (first | (with_reducible first | exact HB.out | apply below_alloc | apply pw_below_drewN | apply below_drew1 | refine below_set ?_ GE403.out | refine below_set ?_ GE404.out) | exact HB.out)))); have n1_ := Aside0.mk (blk_below (g := gb403) (o := .cells #[.int .i64 a1_0, .int .i64 a1_1, .string a1_2] 31 (0, 0)) (by (with_reducible repeat (first | refine blk_drewN ?_ _ | refine blk_drew ?_ | refine blk_alloc ?_ _)); exact BK403.out) hb); have n2_ := Aside0.mk (blk_below (g := gb404) (o := .cells #[.int .i64 a2_0, .int .i64 a2_1, .string a2_2] 31 (0, 0)) (by (with_reducible repeat (first | refine blk_drewN ?_ _ | refine blk_drew ?_ | refine blk_alloc ?_ _)); exact BK404.out) hb); have n3_ := Aside0.mk (below_step (by repeat (first | (with_reducible first | exact HB.out | apply below_alloc | apply pw_below_drewN | apply below_drew1 | refine below_set ?_ GE403.out | refine below_set ?_ GE404.out) | exact HB.out)) hb); clear BK403; clear BK404; clear HB; have HO408 := n0_; have BK403 := n1_; have BK404 := n2_; have HB := n3_; clear n0_ n1_ n2_ n3_; clear hb ho29; obtain ⟨Ao30, co30, eo30⟩ := Kd.R_slice HO408.out; subst eo30) | ((with_reducible refine gate_callee (f := 32) rfl ?_); refine goesL_ (some 21) rfl rfl Try.func32 (by kernel_rfl) rfl #[.string a0, .slice Ao30 y406.length co30] rfl (by (try simp only [List.map_toArray, List.map_cons, List.map_nil]); first | done | rfl | (simp only [List.length_drop, List.length_take]; rfl)) ?_; (with_reducible refine (emendatelaw03_few.calls k a0 _ _ y406 true _ ?side1 ?side2 A10.out).mono ?_); (case side1 => repeat (first | exact (Kd.R_reads' HO408.out).2.2 | (with_reducible refine Kd.C_alloc ?_ _) | (with_reducible refine Kd.C_drewN ?_ _) | (with_reducible refine Kd.C_drew ?_))); (case side2 => exact (Kd.R_reads' HO408.out).2.1); rintro e w' ⟨rfl, ⟨nd, rfl⟩⟩; refine ⟨_, rfl, ?_⟩; have hcz31_0 : w28.cell? ⟨gb403, 0, none⟩ = some (.int .i64 a1_0) := (blk_cell BK403.out 0).trans rfl; have hcz31_1 : w28.cell? ⟨gb403, 1, none⟩ = some (.int .i64 a1_1) := (blk_cell BK403.out 1).trans rfl; have hcz31_2 : w28.cell? ⟨gb403, 2, none⟩ = some (.string a1_2) := (blk_cell BK403.out 2).trans rfl; have hfz31_0 := blk_frozen BK403.out 0; have hfz31_1 := blk_frozen BK403.out 1; have hfz31_2 := blk_frozen BK403.out 2) | (go_at_call 33; (with_reducible refine (emendateref03_Fits.calls a0 a1_0 a1_1 a1_2 false _ A12.out).mono ?_); rintro e w32 ⟨rfl, hb⟩; have n0_ := Aside0.mk (Kd.R_below (by (with_reducible repeat (first | apply Kd.R_alloc | apply Kd.R_drewN | apply Kd.R_drew)); exact HO408.out) hb); have n1_ := Aside0.mk (blk_below (g := gb403) (o := .cells #[.int .i64 a1_0, .int .i64 a1_1, .string a1_2] 31 (0, 0)) (by (with_reducible repeat (first | refine blk_drewN ?_ _ | refine blk_drew ?_ | refine blk_alloc ?_ _)); exact BK403.out) hb); have n2_ := Aside0.mk (blk_below (g := gb404) (o := .cells #[.int .i64 a2_0, .int .i64 a2_1, .string a2_2] 31 (0, 0)) (by (with_reducible repeat (first | refine blk_drewN ?_ _ | refine blk_drew ?_ | refine blk_alloc ?_ _)); exact BK404.out) hb); have n3_ := Aside0.mk (below_step (by repeat (first | (with_reducible first | exact HB.out | apply below_alloc | apply pw_below_drewN | apply below_drew1 | refine below_set ?_ GE403.out | refine below_set ?_ GE404.out) | exact HB.out)) hb); clear HO408; clear BK403; clear BK404; clear HB; have HO408 := n0_; have BK403 := n1_; have BK404 := n2_; have HB := n3_; clear n0_ n1_ n2_ n3_; (try clear hb); (try clear hb2); (try clear hk); (try clear hi)))
          go_meet
          case rel => exact ⟨_, (true), (by first | rfl | (simp; done) | (simp [*]; done)), H', ⟨by first | omega | exact Nat.le_refl _⟩, ⟨by (with_reducible repeat (first | refine blk_drewN ?_ _ | refine blk_drew ?_ | refine blk_alloc ?_ _)); exact BK403.out⟩, ⟨by (with_reducible repeat (first | refine blk_drewN ?_ _ | refine blk_drew ?_ | refine blk_alloc ?_ _)); exact BK404.out⟩, ⟨by repeat (first | (with_reducible first | exact HB.out | apply below_alloc | apply pw_below_drewN | apply below_drew1 | refine below_set ?_ GE403.out | refine below_set ?_ GE404.out) | exact HB.out)⟩⟩
      · replace c11 := Bool.eq_false_iff.mpr c11
        subst c11
        have H1 : (emendatelaw03_TexteditRebaseCommutes.j0 k a0 true a1_0 a1_1 a1_2 a2_0 a2_1 a2_2) = some r := by rw [if_neg (show ¬ (false = true) by decide)] at H; exact H
        clear H
        have H := H1
        clear H1
        have H' := Aside0.mk H
        clear H
        have hnb33 := NB403_404.out
        have hnc33 := NB404_403.out
        have hcz34_0 : w9.cell? ⟨gb403, 0, none⟩ = some (.int .i64 a1_0) := (blk_cell BK403.out 0).trans rfl
        have hcz34_1 : w9.cell? ⟨gb403, 1, none⟩ = some (.int .i64 a1_1) := (blk_cell BK403.out 1).trans rfl
        have hcz34_2 : w9.cell? ⟨gb403, 2, none⟩ = some (.string a1_2) := (blk_cell BK403.out 2).trans rfl
        have hfz34_0 := blk_frozen BK403.out 0
        have hfz34_1 := blk_frozen BK403.out 1
        have hfz34_2 := blk_frozen BK403.out 2
        have hcz35_0 : w9.cell? ⟨gb404, 0, none⟩ = some (.int .i64 a2_0) := (blk_cell BK404.out 0).trans rfl
        have hcz35_1 : w9.cell? ⟨gb404, 1, none⟩ = some (.int .i64 a2_1) := (blk_cell BK404.out 1).trans rfl
        have hcz35_2 : w9.cell? ⟨gb404, 2, none⟩ = some (.string a2_2) := (blk_cell BK404.out 2).trans rfl
        have hfz35_0 := blk_frozen BK404.out 0
        have hfz35_1 := blk_frozen BK404.out 1
        have hfz35_2 := blk_frozen BK404.out 2
        go_wp2_with (first | ((with_reducible refine gate_dst (N := 20) rfl ?_); refine Kd.R_lit k31 _ 31 ?hg (N := 20) ?hd (xs := ([(⟨a1_0, a1_1, a1_2⟩ : S31), (⟨a2_0, a2_1, a2_2⟩ : S31)] : List (S31))) (inner := [.int .i64 a1_0, .int .i64 a1_1, .string a1_2, .int .i64 a2_0, .int .i64 a2_1, .string a2_2]) (ok := fun _ => True) (okp := fun _ => True) ?hr ?hp (fun _ hk => hk) trivial (Below.refl _ _) (Nat.le_refl _) (by simp) ?_; (case hd => rfl); (case hg => rfl); (case hr => first | (go_simp; done) | (go_simp; rfl)); (case hp => exact (Reps.c3 (show Kd.M k31 _ _ _ (⟨a1_0, a1_1, a1_2⟩ : S31) [.int .i64 a1_0, .int .i64 a1_1, .string a1_2] from (k31_mkM _ _ _ (⟨a1_0, a1_1, a1_2⟩ : S31) )) (Reps.c3 (show Kd.M k31 _ _ _ (⟨a2_0, a2_1, a2_2⟩ : S31) [.int .i64 a2_0, .int .i64 a2_1, .string a2_2] from (k31_mkM _ _ _ (⟨a2_0, a2_1, a2_2⟩ : S31) )) (Reps.none _ _)))); intro v407 w36 ho37 hb hg_ hnew_; clear hg_ hnew_; (first | rw [← Ny406.out] at ho37 | (simp only [Int.reduceToNat] at ho37; rw [← Ny406.out] at ho37)); have n0_ := Aside0.mk (Kd.R_lower (Kd.R_newB (Kd.R_newB ho37 (g := gb403) (o := .cells #[.int .i64 a1_0, .int .i64 a1_1, .string a1_2] 31 (0, 0)) (by (with_reducible repeat (first | refine blk_drewN ?_ _ | refine blk_drew ?_ | refine blk_alloc ?_ _)); exact BK403.out)) (g := gb404) (o := .cells #[.int .i64 a2_0, .int .i64 a2_1, .string a2_2] 31 (0, 0)) (by (with_reducible repeat (first | refine blk_drewN ?_ _ | refine blk_drew ?_ | refine blk_alloc ?_ _)); exact BK404.out)) (below_size (by repeat (first | (with_reducible first | exact HB.out | apply below_alloc | apply pw_below_drewN | apply below_drew1 | refine below_set ?_ GE403.out | refine below_set ?_ GE404.out) | exact HB.out)))); have n1_ := Aside0.mk (blk_below (g := gb403) (o := .cells #[.int .i64 a1_0, .int .i64 a1_1, .string a1_2] 31 (0, 0)) (by (with_reducible repeat (first | refine blk_drewN ?_ _ | refine blk_drew ?_ | refine blk_alloc ?_ _)); exact BK403.out) hb); have n2_ := Aside0.mk (blk_below (g := gb404) (o := .cells #[.int .i64 a2_0, .int .i64 a2_1, .string a2_2] 31 (0, 0)) (by (with_reducible repeat (first | refine blk_drewN ?_ _ | refine blk_drew ?_ | refine blk_alloc ?_ _)); exact BK404.out) hb); have n3_ := Aside0.mk (below_step (by repeat (first | (with_reducible first | exact HB.out | apply below_alloc | apply pw_below_drewN | apply below_drew1 | refine below_set ?_ GE403.out | refine below_set ?_ GE404.out) | exact HB.out)) hb); clear BK403; clear BK404; clear HB; have HO408 := n0_; have BK403 := n1_; have BK404 := n2_; have HB := n3_; clear n0_ n1_ n2_ n3_; clear hb ho37; obtain ⟨Ao38, co38, eo38⟩ := Kd.R_slice HO408.out; subst eo38) | ((with_reducible refine gate_callee (f := 32) rfl ?_); refine goesL_ (some 21) rfl rfl Try.func32 (by kernel_rfl) rfl #[.string a0, .slice Ao38 y406.length co38] rfl (by (try simp only [List.map_toArray, List.map_cons, List.map_nil]); first | done | rfl | (simp only [List.length_drop, List.length_take]; rfl)) ?_; (with_reducible refine (emendatelaw03_few.calls k a0 _ _ y406 false _ ?side1 ?side2 A10.out).mono ?_); (case side1 => repeat (first | exact (Kd.R_reads' HO408.out).2.2 | (with_reducible refine Kd.C_alloc ?_ _) | (with_reducible refine Kd.C_drewN ?_ _) | (with_reducible refine Kd.C_drew ?_))); (case side2 => exact (Kd.R_reads' HO408.out).2.1); rintro e w' ⟨rfl, ⟨nd, rfl⟩⟩; refine ⟨_, rfl, ?_⟩))
        go_meet
        case rel => exact ⟨_, (true), (by first | rfl | (simp; done) | (simp [*]; done)), H', ⟨by first | omega | exact Nat.le_refl _⟩, ⟨by (with_reducible repeat (first | refine blk_drewN ?_ _ | refine blk_drew ?_ | refine blk_alloc ?_ _)); exact BK403.out⟩, ⟨by (with_reducible repeat (first | refine blk_drewN ?_ _ | refine blk_drew ?_ | refine blk_alloc ?_ _)); exact BK404.out⟩, ⟨by repeat (first | (with_reducible first | exact HB.out | apply below_alloc | apply pw_below_drewN | apply below_drew1 | refine below_set ?_ GE403.out | refine below_set ?_ GE404.out) | exact HB.out)⟩⟩
    case rest =>
      clear HC6
      try clear c1
      try clear c2
      try clear p2
      try clear c3
      try clear c5
      try clear c11
      try clear c13
      try clear c15
      try clear c17
      try clear c25
      try clear c31
      try clear c32
      try clear c33
      try clear hcz16_0
      try clear hcz16_1
      try clear hcz16_2
      try clear hcz17_0
      try clear hcz17_1
      try clear hcz17_2
      try clear hcz21_0
      try clear hcz21_1
      try clear hcz21_2
      try clear hcz23_0
      try clear hcz23_1
      try clear hcz23_2
      try clear hcz26_0
      try clear hcz26_1
      try clear hcz26_2
      try clear hcz27_0
      try clear hcz27_1
      try clear hcz27_2
      try clear hcz31_0
      try clear hcz31_1
      try clear hcz31_2
      try clear hcz34_0
      try clear hcz34_1
      try clear hcz34_2
      try clear hcz35_0
      try clear hcz35_1
      try clear hcz35_2
      try clear hfz16_0
      try clear hfz16_1
      try clear hfz16_2
      try clear hfz17_0
      try clear hfz17_1
      try clear hfz17_2
      try clear hfz21_0
      try clear hfz21_1
      try clear hfz21_2
      try clear hfz23_0
      try clear hfz23_1
      try clear hfz23_2
      try clear hfz26_0
      try clear hfz26_1
      try clear hfz26_2
      try clear hfz27_0
      try clear hfz27_1
      try clear hfz27_2
      try clear hfz31_0
      try clear hfz31_1
      try clear hfz31_2
      try clear hfz34_0
      try clear hfz34_1
      try clear hfz34_2
      try clear hfz35_0
      try clear hfz35_1
      try clear hfz35_2
      obtain ⟨kq, x34_5, rfl, HA, HJ5, BK403, BK404, HB⟩ := hcut
      cases kq with
      | zero => exact absurd HA.out (by simp [emendatelaw03_TexteditRebaseCommutes.j0])
      | succ kj5 =>
        have H := HA.out
        clear HA
        simp only [emendatelaw03_TexteditRebaseCommutes.j0] at H
        by_cases c39 : x34_5 = true
        · subst c39
          have H1 : (some true) = some r := by rw [if_pos rfl] at H; exact H
          clear H
          have H := H1
          clear H1
          obtain rfl := Option.some.inj H
          go_wp2
          go_ret
          exact ⟨by first | rfl | (simp [errW_none, errW_some] <;> rfl) | (simp [*, errW_none, errW_some] <;> rfl), by repeat (first | (with_reducible first | exact HB.out | apply below_alloc | apply pw_below_drewN | apply below_drew1 | refine below_set ?_ GE403.out | refine below_set ?_ GE404.out) | exact HB.out)⟩
        · replace c39 := Bool.eq_false_iff.mpr c39
          subst c39
          have H1 : ((textedit_Rebase.f kj5 a1_0 a1_1 a1_2 a2_0 a2_1 a2_2).bind fun bt412 => ((textedit_Rebase.f kj5 a2_0 a2_1 a2_2 a1_0 a1_1 a1_2).bind fun bt417 => (if (bt412.2.2.2 != bt417.2.2.2) = true then (some false) else (if bt412.2.2.2 = true then (if a1_1 = 0 then (if a2_1 = 0 then (emendatelaw03_TexteditRebaseCommutes.j1 kj5 a0 (a1_0 == a2_0) a1_0 a1_1 a1_2 a2_0 a2_1 a2_2 bt412.1 bt412.2.1 bt412.2.2.1 bt417.1 bt417.2.1 bt417.2.2.1) else (emendatelaw03_TexteditRebaseCommutes.j1 kj5 a0 false a1_0 a1_1 a1_2 a2_0 a2_1 a2_2 bt412.1 bt412.2.1 bt412.2.2.1 bt417.1 bt417.2.1 bt417.2.2.1)) else (emendatelaw03_TexteditRebaseCommutes.j1 kj5 a0 false a1_0 a1_1 a1_2 a2_0 a2_1 a2_2 bt412.1 bt412.2.1 bt412.2.2.1 bt417.1 bt417.2.1 bt417.2.2.1)) else (emendatelaw03_TexteditRebaseCommutes.j1 kj5 a0 true a1_0 a1_1 a1_2 a2_0 a2_1 a2_2 bt412.1 bt412.2.1 bt412.2.2.1 bt417.1 bt417.2.1 bt417.2.2.1))))) = some r := by rw [if_neg (show ¬ (false = true) by decide)] at H; exact H
          clear H
          have H := H1
          clear H1
          replace H := Option.bind_eq_some_iff.mp H
          obtain ⟨⟨t412, t413, t414, t415⟩, A400, H⟩ := H
          replace H : ((textedit_Rebase.f kj5 a2_0 a2_1 a2_2 a1_0 a1_1 a1_2).bind fun bt417 => (if (t415 != bt417.2.2.2) = true then (some false) else (if t415 = true then (if a1_1 = 0 then (if a2_1 = 0 then (emendatelaw03_TexteditRebaseCommutes.j1 kj5 a0 (a1_0 == a2_0) a1_0 a1_1 a1_2 a2_0 a2_1 a2_2 t412 t413 t414 bt417.1 bt417.2.1 bt417.2.2.1) else (emendatelaw03_TexteditRebaseCommutes.j1 kj5 a0 false a1_0 a1_1 a1_2 a2_0 a2_1 a2_2 t412 t413 t414 bt417.1 bt417.2.1 bt417.2.2.1)) else (emendatelaw03_TexteditRebaseCommutes.j1 kj5 a0 false a1_0 a1_1 a1_2 a2_0 a2_1 a2_2 t412 t413 t414 bt417.1 bt417.2.1 bt417.2.2.1)) else (emendatelaw03_TexteditRebaseCommutes.j1 kj5 a0 true a1_0 a1_1 a1_2 a2_0 a2_1 a2_2 t412 t413 t414 bt417.1 bt417.2.1 bt417.2.2.1)))) = some r := H
          have A40 := Aside0.mk A400
          clear A400
          replace H := Option.bind_eq_some_iff.mp H
          obtain ⟨⟨t417, t418, t419, t420⟩, A410, H⟩ := H
          replace H : (if (t415 != t420) = true then (some false) else (if t415 = true then (if a1_1 = 0 then (if a2_1 = 0 then (emendatelaw03_TexteditRebaseCommutes.j1 kj5 a0 (a1_0 == a2_0) a1_0 a1_1 a1_2 a2_0 a2_1 a2_2 t412 t413 t414 t417 t418 t419) else (emendatelaw03_TexteditRebaseCommutes.j1 kj5 a0 false a1_0 a1_1 a1_2 a2_0 a2_1 a2_2 t412 t413 t414 t417 t418 t419)) else (emendatelaw03_TexteditRebaseCommutes.j1 kj5 a0 false a1_0 a1_1 a1_2 a2_0 a2_1 a2_2 t412 t413 t414 t417 t418 t419)) else (emendatelaw03_TexteditRebaseCommutes.j1 kj5 a0 true a1_0 a1_1 a1_2 a2_0 a2_1 a2_2 t412 t413 t414 t417 t418 t419))) = some r := H
          have A41 := Aside0.mk A410
          clear A410
          by_cases c42 : (t415 != t420) = true
          · rw [if_pos c42] at H
            have c42b0 : (t415 != t420) = true := c42
            (try (have c42b1 : decide (t415 = t420) = false := by simpa using c42))
            (try (have c42b2 : (t415 == t420) = false := by simpa using c42))
            (try (have c42b3 : ¬ (t415 = t420) := by simpa using c42))
            clear c42
            obtain rfl := Option.some.inj H
            have hnb43 := NB403_404.out
            have hnc43 := NB404_403.out
            have hcz44_0 : wc.cell? ⟨gb403, 0, none⟩ = some (.int .i64 a1_0) := (blk_cell BK403.out 0).trans rfl
            have hcz44_1 : wc.cell? ⟨gb403, 1, none⟩ = some (.int .i64 a1_1) := (blk_cell BK403.out 1).trans rfl
            have hcz44_2 : wc.cell? ⟨gb403, 2, none⟩ = some (.string a1_2) := (blk_cell BK403.out 2).trans rfl
            have hfz44_0 := blk_frozen BK403.out 0
            have hfz44_1 := blk_frozen BK403.out 1
            have hfz44_2 := blk_frozen BK403.out 2
            have hcz45_0 : wc.cell? ⟨gb404, 0, none⟩ = some (.int .i64 a2_0) := (blk_cell BK404.out 0).trans rfl
            have hcz45_1 : wc.cell? ⟨gb404, 1, none⟩ = some (.int .i64 a2_1) := (blk_cell BK404.out 1).trans rfl
            have hcz45_2 : wc.cell? ⟨gb404, 2, none⟩ = some (.string a2_2) := (blk_cell BK404.out 2).trans rfl
            have hfz45_0 := blk_frozen BK404.out 0
            have hfz45_1 := blk_frozen BK404.out 1
            have hfz45_2 := blk_frozen BK404.out 2
            go_wp2_with (first | ((with_reducible refine gate_callee (f := 43) rfl ?_); refine goesL_ (some 38) rfl rfl Try.func43 (by kernel_rfl) rfl #[.agg #[.int .i64 a1_0, .int .i64 a1_1, .string a1_2], .agg #[.int .i64 a2_0, .int .i64 a2_1, .string a2_2]] rfl (by (try simp only [List.map_toArray, List.map_cons, List.map_nil]); first | done | rfl | (simp only [List.length_drop, List.length_take]; rfl)) ?_; (with_reducible refine (textedit_Rebase.calls kj5 a1_0 a1_1 a1_2 a2_0 a2_1 a2_2 t412 t413 t414 t415 _ A40.out).mono ?_); rintro e w46 ⟨rfl, hb⟩; refine ⟨_, rfl, ?_⟩; have n0_ := Aside0.mk (blk_below (g := gb403) (o := .cells #[.int .i64 a1_0, .int .i64 a1_1, .string a1_2] 31 (0, 0)) (by (with_reducible repeat (first | refine blk_drewN ?_ _ | refine blk_drew ?_ | refine blk_alloc ?_ _)); exact BK403.out) hb); have n1_ := Aside0.mk (blk_below (g := gb404) (o := .cells #[.int .i64 a2_0, .int .i64 a2_1, .string a2_2] 31 (0, 0)) (by (with_reducible repeat (first | refine blk_drewN ?_ _ | refine blk_drew ?_ | refine blk_alloc ?_ _)); exact BK404.out) hb); have n2_ := Aside0.mk (below_step (by repeat (first | (with_reducible first | exact HB.out | apply below_alloc | apply pw_below_drewN | apply below_drew1 | refine below_set ?_ GE403.out | refine below_set ?_ GE404.out) | exact HB.out)) hb); clear BK403; clear BK404; clear HB; have BK403 := n0_; have BK404 := n1_; have HB := n2_; clear n0_ n1_ n2_; (try clear hb); (try clear hb2); (try clear hk); (try clear hi)) | ((with_reducible refine gate_dst (N := 7) rfl ?_); refine box_event ?hg (N := 7) ?hd (cs := #[.int .i64 0, .int .i64 0, .string (⟨#[]⟩ : ByteArray)]) (t := 31) ?hr ?_; (case hd => rfl); (case hg => rfl); (case hr => first | (go_simp; done) | (go_simp; rfl)); intro gb416 hg w47 hbox hb; have n0_ := Aside0.mk (blk_below (g := gb403) (o := .cells #[.int .i64 a1_0, .int .i64 a1_1, .string a1_2] 31 (0, 0)) (by (with_reducible repeat (first | refine blk_drewN ?_ _ | refine blk_drew ?_ | refine blk_alloc ?_ _)); exact BK403.out) hb); have n1_ := Aside0.mk (blk_below (g := gb404) (o := .cells #[.int .i64 a2_0, .int .i64 a2_1, .string a2_2] 31 (0, 0)) (by (with_reducible repeat (first | refine blk_drewN ?_ _ | refine blk_drew ?_ | refine blk_alloc ?_ _)); exact BK404.out) hb); have n2_ := Aside0.mk (below_step (by repeat (first | (with_reducible first | exact HB.out | apply below_alloc | apply pw_below_drewN | apply below_drew1 | refine below_set ?_ GE403.out | refine below_set ?_ GE404.out) | exact HB.out)) hb); have n3_ := Aside0.mk (hbox); have n4_ := Aside0.mk ((by rw [hg]; exact (below_size (by repeat (first | (with_reducible first | exact HB.out | apply below_alloc | apply pw_below_drewN | apply below_drew1 | refine below_set ?_ GE403.out | refine below_set ?_ GE404.out) | exact HB.out))) : w.heap.size ≤ gb416)); have n5_ := Aside0.mk ((by rw [hg]; exact (below_size (by repeat (first | (with_reducible first | exact HB.out | apply below_alloc | apply pw_below_drewN | apply below_drew1 | refine below_set ?_ GE403.out | refine below_set ?_ GE404.out) | exact HB.out))) : w.heap.size ≤ gb416)); have n6_ := Aside0.mk ((by rw [hg]; exact Nat.ne_of_lt (blk_lt (g := gb403) (o := .cells #[.int .i64 a1_0, .int .i64 a1_1, .string a1_2] 31 (0, 0)) (by (with_reducible repeat (first | refine blk_drewN ?_ _ | refine blk_drew ?_ | refine blk_alloc ?_ _)); exact BK403.out)) : gb403 ≠ gb416)); have n7_ := Aside0.mk ((by rw [hg]; exact Nat.ne_of_gt (blk_lt (g := gb403) (o := .cells #[.int .i64 a1_0, .int .i64 a1_1, .string a1_2] 31 (0, 0)) (by (with_reducible repeat (first | refine blk_drewN ?_ _ | refine blk_drew ?_ | refine blk_alloc ?_ _)); exact BK403.out)) : gb416 ≠ gb403)); have n8_ := Aside0.mk ((by rw [hg]; exact Nat.ne_of_lt (blk_lt (g := gb404) (o := .cells #[.int .i64 a2_0, .int .i64 a2_1, .string a2_2] 31 (0, 0)) (by (with_reducible repeat (first | refine blk_drewN ?_ _ | refine blk_drew ?_ | refine blk_alloc ?_ _)); exact BK404.out)) : gb404 ≠ gb416)); have n9_ := Aside0.mk ((by rw [hg]; exact Nat.ne_of_gt (blk_lt (g := gb404) (o := .cells #[.int .i64 a2_0, .int .i64 a2_1, .string a2_2] 31 (0, 0)) (by (with_reducible repeat (first | refine blk_drewN ?_ _ | refine blk_drew ?_ | refine blk_alloc ?_ _)); exact BK404.out)) : gb416 ≠ gb404)); clear BK403; clear BK404; clear HB; have BK403 := n0_; have BK404 := n1_; have HB := n2_; have BK416 := n3_; have GW416 := n4_; have GE416 := n5_; have NB403_416 := n6_; have NB416_403 := n7_; have NB404_416 := n8_; have NB416_404 := n9_; clear n0_ n1_ n2_ n3_ n4_ n5_ n6_ n7_ n8_ n9_; clear hb hbox hg; have hnb48 := NB416_403.out; have hnc48 := NB403_416.out; have hnb49 := NB416_404.out; have hnc49 := NB404_416.out; have hcz50_0 : w47.cell? ⟨gb416, 0, none⟩ = some (.int .i64 0) := (blk_cell BK416.out 0).trans rfl; have hcz50_1 : w47.cell? ⟨gb416, 1, none⟩ = some (.int .i64 0) := (blk_cell BK416.out 1).trans rfl; have hcz50_2 : w47.cell? ⟨gb416, 2, none⟩ = some (.string (⟨#[]⟩ : ByteArray)) := (blk_cell BK416.out 2).trans rfl; have hfz50_0 := blk_frozen BK416.out 0; have hfz50_1 := blk_frozen BK416.out 1; have hfz50_2 := blk_frozen BK416.out 2; have hcz51_0 : w47.cell? ⟨gb404, 0, none⟩ = some (.int .i64 a2_0) := (blk_cell BK404.out 0).trans rfl; have hcz51_1 : w47.cell? ⟨gb404, 1, none⟩ = some (.int .i64 a2_1) := (blk_cell BK404.out 1).trans rfl; have hcz51_2 : w47.cell? ⟨gb404, 2, none⟩ = some (.string a2_2) := (blk_cell BK404.out 2).trans rfl; have hfz51_0 := blk_frozen BK404.out 0; have hfz51_1 := blk_frozen BK404.out 1; have hfz51_2 := blk_frozen BK404.out 2; have hcz52_0 : w47.cell? ⟨gb403, 0, none⟩ = some (.int .i64 a1_0) := (blk_cell BK403.out 0).trans rfl; have hcz52_1 : w47.cell? ⟨gb403, 1, none⟩ = some (.int .i64 a1_1) := (blk_cell BK403.out 1).trans rfl; have hcz52_2 : w47.cell? ⟨gb403, 2, none⟩ = some (.string a1_2) := (blk_cell BK403.out 2).trans rfl; have hfz52_0 := blk_frozen BK403.out 0; have hfz52_1 := blk_frozen BK403.out 1; have hfz52_2 := blk_frozen BK403.out 2) | ((with_reducible refine gate_callee (f := 43) rfl ?_); refine goesL_ (some 44) rfl rfl Try.func43 (by kernel_rfl) rfl #[.agg #[.int .i64 a2_0, .int .i64 a2_1, .string a2_2], .agg #[.int .i64 a1_0, .int .i64 a1_1, .string a1_2]] rfl (by (try simp only [List.map_toArray, List.map_cons, List.map_nil]); first | done | rfl | (simp only [List.length_drop, List.length_take]; rfl)) ?_; (with_reducible refine (textedit_Rebase.calls kj5 a2_0 a2_1 a2_2 a1_0 a1_1 a1_2 t417 t418 t419 t420 _ A41.out).mono ?_); rintro e w53 ⟨rfl, hb⟩; refine ⟨_, rfl, ?_⟩; have n0_ := Aside0.mk (blk_below (g := gb403) (o := .cells #[.int .i64 a1_0, .int .i64 a1_1, .string a1_2] 31 (0, 0)) (by (with_reducible repeat (first | refine blk_drewN ?_ _ | refine blk_drew ?_ | refine blk_alloc ?_ _)); refine blk_far ?_ NB403_416.out _; (with_reducible repeat (first | refine blk_drewN ?_ _ | refine blk_drew ?_ | refine blk_alloc ?_ _)); refine blk_far ?_ NB403_416.out _; (with_reducible repeat (first | refine blk_drewN ?_ _ | refine blk_drew ?_ | refine blk_alloc ?_ _)); refine blk_far ?_ NB403_416.out _; (with_reducible repeat (first | refine blk_drewN ?_ _ | refine blk_drew ?_ | refine blk_alloc ?_ _)); exact BK403.out) hb); have n1_ := Aside0.mk (blk_below (g := gb404) (o := .cells #[.int .i64 a2_0, .int .i64 a2_1, .string a2_2] 31 (0, 0)) (by (with_reducible repeat (first | refine blk_drewN ?_ _ | refine blk_drew ?_ | refine blk_alloc ?_ _)); refine blk_far ?_ NB404_416.out _; (with_reducible repeat (first | refine blk_drewN ?_ _ | refine blk_drew ?_ | refine blk_alloc ?_ _)); refine blk_far ?_ NB404_416.out _; (with_reducible repeat (first | refine blk_drewN ?_ _ | refine blk_drew ?_ | refine blk_alloc ?_ _)); refine blk_far ?_ NB404_416.out _; (with_reducible repeat (first | refine blk_drewN ?_ _ | refine blk_drew ?_ | refine blk_alloc ?_ _)); exact BK404.out) hb); have n2_ := Aside0.mk (blk_below (g := gb416) (o := .cells #[.int .i64 t412, .int .i64 t413, .string t414] 31 (0, 0)) (by (with_reducible repeat (first | refine blk_drewN ?_ _ | refine blk_drew ?_ | refine blk_alloc ?_ _)); refine blk_put (cs := #[.int .i64 t412, .int .i64 t413, .string (⟨#[]⟩ : ByteArray)]) ?_ 2 _ rfl; (with_reducible repeat (first | refine blk_drewN ?_ _ | refine blk_drew ?_ | refine blk_alloc ?_ _)); refine blk_put (cs := #[.int .i64 t412, .int .i64 0, .string (⟨#[]⟩ : ByteArray)]) ?_ 1 _ rfl; (with_reducible repeat (first | refine blk_drewN ?_ _ | refine blk_drew ?_ | refine blk_alloc ?_ _)); refine blk_put (cs := #[.int .i64 0, .int .i64 0, .string (⟨#[]⟩ : ByteArray)]) ?_ 0 _ rfl; (with_reducible repeat (first | refine blk_drewN ?_ _ | refine blk_drew ?_ | refine blk_alloc ?_ _)); exact BK416.out) hb); have n3_ := Aside0.mk (below_step (by repeat (first | (with_reducible first | exact HB.out | apply below_alloc | apply pw_below_drewN | apply below_drew1 | refine below_set ?_ GE403.out | refine below_set ?_ GE404.out | refine below_set ?_ GE416.out) | exact HB.out)) hb); clear BK403; clear BK404; clear BK416; clear HB; have BK403 := n0_; have BK404 := n1_; have BK416 := n2_; have HB := n3_; clear n0_ n1_ n2_ n3_; (try clear hb); (try clear hb2); (try clear hk); (try clear hi)) | ((with_reducible refine gate_dst (N := 9) rfl ?_); refine box_event ?hg (N := 9) ?hd (cs := #[.int .i64 0, .int .i64 0, .string (⟨#[]⟩ : ByteArray)]) (t := 31) ?hr ?_; (case hd => rfl); (case hg => rfl); (case hr => first | (go_simp; done) | (go_simp; rfl)); intro gb421 hg w54 hbox hb; have n0_ := Aside0.mk (blk_below (g := gb403) (o := .cells #[.int .i64 a1_0, .int .i64 a1_1, .string a1_2] 31 (0, 0)) (by (with_reducible repeat (first | refine blk_drewN ?_ _ | refine blk_drew ?_ | refine blk_alloc ?_ _)); exact BK403.out) hb); have n1_ := Aside0.mk (blk_below (g := gb404) (o := .cells #[.int .i64 a2_0, .int .i64 a2_1, .string a2_2] 31 (0, 0)) (by (with_reducible repeat (first | refine blk_drewN ?_ _ | refine blk_drew ?_ | refine blk_alloc ?_ _)); exact BK404.out) hb); have n2_ := Aside0.mk (blk_below (g := gb416) (o := .cells #[.int .i64 t412, .int .i64 t413, .string t414] 31 (0, 0)) (by (with_reducible repeat (first | refine blk_drewN ?_ _ | refine blk_drew ?_ | refine blk_alloc ?_ _)); exact BK416.out) hb); have n3_ := Aside0.mk (below_step (by repeat (first | (with_reducible first | exact HB.out | apply below_alloc | apply pw_below_drewN | apply below_drew1 | refine below_set ?_ GE403.out | refine below_set ?_ GE404.out | refine below_set ?_ GE416.out) | exact HB.out)) hb); have n4_ := Aside0.mk (hbox); have n5_ := Aside0.mk ((by rw [hg]; exact (below_size (by repeat (first | (with_reducible first | exact HB.out | apply below_alloc | apply pw_below_drewN | apply below_drew1 | refine below_set ?_ GE403.out | refine below_set ?_ GE404.out | refine below_set ?_ GE416.out) | exact HB.out))) : w.heap.size ≤ gb421)); have n6_ := Aside0.mk ((by rw [hg]; exact (below_size (by repeat (first | (with_reducible first | exact HB.out | apply below_alloc | apply pw_below_drewN | apply below_drew1 | refine below_set ?_ GE403.out | refine below_set ?_ GE404.out | refine below_set ?_ GE416.out) | exact HB.out))) : w.heap.size ≤ gb421)); have n7_ := Aside0.mk ((by rw [hg]; exact Nat.ne_of_lt (blk_lt (g := gb403) (o := .cells #[.int .i64 a1_0, .int .i64 a1_1, .string a1_2] 31 (0, 0)) (by (with_reducible repeat (first | refine blk_drewN ?_ _ | refine blk_drew ?_ | refine blk_alloc ?_ _)); exact BK403.out)) : gb403 ≠ gb421)); have n8_ := Aside0.mk ((by rw [hg]; exact Nat.ne_of_gt (blk_lt (g := gb403) (o := .cells #[.int .i64 a1_0, .int .i64 a1_1, .string a1_2] 31 (0, 0)) (by (with_reducible repeat (first | refine blk_drewN ?_ _ | refine blk_drew ?_ | refine blk_alloc ?_ _)); exact BK403.out)) : gb421 ≠ gb403)); have n9_ := Aside0.mk ((by rw [hg]; exact Nat.ne_of_lt (blk_lt (g := gb404) (o := .cells #[.int .i64 a2_0, .int .i64 a2_1, .string a2_2] 31 (0, 0)) (by (with_reducible repeat (first | refine blk_drewN ?_ _ | refine blk_drew ?_ | refine blk_alloc ?_ _)); exact BK404.out)) : gb404 ≠ gb421)); have n10_ := Aside0.mk ((by rw [hg]; exact Nat.ne_of_gt (blk_lt (g := gb404) (o := .cells #[.int .i64 a2_0, .int .i64 a2_1, .string a2_2] 31 (0, 0)) (by (with_reducible repeat (first | refine blk_drewN ?_ _ | refine blk_drew ?_ | refine blk_alloc ?_ _)); exact BK404.out)) : gb421 ≠ gb404)); have n11_ := Aside0.mk ((by rw [hg]; exact Nat.ne_of_lt (blk_lt (g := gb416) (o := .cells #[.int .i64 t412, .int .i64 t413, .string t414] 31 (0, 0)) (by (with_reducible repeat (first | refine blk_drewN ?_ _ | refine blk_drew ?_ | refine blk_alloc ?_ _)); exact BK416.out)) : gb416 ≠ gb421)); have n12_ := Aside0.mk ((by rw [hg]; exact Nat.ne_of_gt (blk_lt (g := gb416) (o := .cells #[.int .i64 t412, .int .i64 t413, .string t414] 31 (0, 0)) (by (with_reducible repeat (first | refine blk_drewN ?_ _ | refine blk_drew ?_ | refine blk_alloc ?_ _)); exact BK416.out)) : gb421 ≠ gb416)); clear BK403; clear BK404; clear BK416; clear HB; have BK403 := n0_; have BK404 := n1_; have BK416 := n2_; have HB := n3_; have BK421 := n4_; have GW421 := n5_; have GE421 := n6_; have NB403_421 := n7_; have NB421_403 := n8_; have NB404_421 := n9_; have NB421_404 := n10_; have NB416_421 := n11_; have NB421_416 := n12_; clear n0_ n1_ n2_ n3_ n4_ n5_ n6_ n7_ n8_ n9_ n10_ n11_ n12_; clear hb hbox hg; have hnb55 := NB421_403.out; have hnc55 := NB403_421.out; have hnb56 := NB421_404.out; have hnc56 := NB404_421.out; have hnb57 := NB421_416.out; have hnc57 := NB416_421.out; have hcz58_0 : w54.cell? ⟨gb421, 0, none⟩ = some (.int .i64 0) := (blk_cell BK421.out 0).trans rfl; have hcz58_1 : w54.cell? ⟨gb421, 1, none⟩ = some (.int .i64 0) := (blk_cell BK421.out 1).trans rfl; have hcz58_2 : w54.cell? ⟨gb421, 2, none⟩ = some (.string (⟨#[]⟩ : ByteArray)) := (blk_cell BK421.out 2).trans rfl; have hfz58_0 := blk_frozen BK421.out 0; have hfz58_1 := blk_frozen BK421.out 1; have hfz58_2 := blk_frozen BK421.out 2))
            go_ret
            exact ⟨by first | rfl | (simp [errW_none, errW_some] <;> rfl) | (simp [*, errW_none, errW_some] <;> rfl), by repeat (first | (with_reducible first | exact HB.out | apply below_alloc | apply pw_below_drewN | apply below_drew1 | refine below_set ?_ GE403.out | refine below_set ?_ GE404.out | refine below_set ?_ GE416.out | refine below_set ?_ GE421.out) | exact HB.out)⟩
          · rw [if_neg c42] at H
            have c42b0 : (t415 != t420) = false := by simpa using c42
            (try (have c42b1 : decide (t415 = t420) = true := by simpa using c42))
            (try (have c42b2 : (t415 == t420) = true := by simpa using c42))
            clear c42
            have HC59 := Aside0.mk H
            clear H
            have hnb60 := NB403_404.out
            have hnc60 := NB404_403.out
            have hcz61_0 : wc.cell? ⟨gb403, 0, none⟩ = some (.int .i64 a1_0) := (blk_cell BK403.out 0).trans rfl
            have hcz61_1 : wc.cell? ⟨gb403, 1, none⟩ = some (.int .i64 a1_1) := (blk_cell BK403.out 1).trans rfl
            have hcz61_2 : wc.cell? ⟨gb403, 2, none⟩ = some (.string a1_2) := (blk_cell BK403.out 2).trans rfl
            have hfz61_0 := blk_frozen BK403.out 0
            have hfz61_1 := blk_frozen BK403.out 1
            have hfz61_2 := blk_frozen BK403.out 2
            have hcz62_0 : wc.cell? ⟨gb404, 0, none⟩ = some (.int .i64 a2_0) := (blk_cell BK404.out 0).trans rfl
            have hcz62_1 : wc.cell? ⟨gb404, 1, none⟩ = some (.int .i64 a2_1) := (blk_cell BK404.out 1).trans rfl
            have hcz62_2 : wc.cell? ⟨gb404, 2, none⟩ = some (.string a2_2) := (blk_cell BK404.out 2).trans rfl
            have hfz62_0 := blk_frozen BK404.out 0
            have hfz62_1 := blk_frozen BK404.out 1
            have hfz62_2 := blk_frozen BK404.out 2
            go_upto_region 9 with (first | ((with_reducible refine gate_callee (f := 43) rfl ?_); refine goesL_ (some 38) rfl rfl Try.func43 (by kernel_rfl) rfl #[.agg #[.int .i64 a1_0, .int .i64 a1_1, .string a1_2], .agg #[.int .i64 a2_0, .int .i64 a2_1, .string a2_2]] rfl (by (try simp only [List.map_toArray, List.map_cons, List.map_nil]); first | done | rfl | (simp only [List.length_drop, List.length_take]; rfl)) ?_; (with_reducible refine (textedit_Rebase.calls kj5 a1_0 a1_1 a1_2 a2_0 a2_1 a2_2 t412 t413 t414 t415 _ A40.out).mono ?_); rintro e w63 ⟨rfl, hb⟩; refine ⟨_, rfl, ?_⟩; have n0_ := Aside0.mk (blk_below (g := gb403) (o := .cells #[.int .i64 a1_0, .int .i64 a1_1, .string a1_2] 31 (0, 0)) (by (with_reducible repeat (first | refine blk_drewN ?_ _ | refine blk_drew ?_ | refine blk_alloc ?_ _)); exact BK403.out) hb); have n1_ := Aside0.mk (blk_below (g := gb404) (o := .cells #[.int .i64 a2_0, .int .i64 a2_1, .string a2_2] 31 (0, 0)) (by (with_reducible repeat (first | refine blk_drewN ?_ _ | refine blk_drew ?_ | refine blk_alloc ?_ _)); exact BK404.out) hb); have n2_ := Aside0.mk (below_step (by repeat (first | (with_reducible first | exact HB.out | apply below_alloc | apply pw_below_drewN | apply below_drew1 | refine below_set ?_ GE403.out | refine below_set ?_ GE404.out) | exact HB.out)) hb); clear BK403; clear BK404; clear HB; have BK403 := n0_; have BK404 := n1_; have HB := n2_; clear n0_ n1_ n2_; (try clear hb); (try clear hb2); (try clear hk); (try clear hi)) | ((with_reducible refine gate_dst (N := 7) rfl ?_); refine box_event ?hg (N := 7) ?hd (cs := #[.int .i64 0, .int .i64 0, .string (⟨#[]⟩ : ByteArray)]) (t := 31) ?hr ?_; (case hd => rfl); (case hg => rfl); (case hr => first | (go_simp; done) | (go_simp; rfl)); intro gb416 hg w64 hbox hb; have n0_ := Aside0.mk (blk_below (g := gb403) (o := .cells #[.int .i64 a1_0, .int .i64 a1_1, .string a1_2] 31 (0, 0)) (by (with_reducible repeat (first | refine blk_drewN ?_ _ | refine blk_drew ?_ | refine blk_alloc ?_ _)); exact BK403.out) hb); have n1_ := Aside0.mk (blk_below (g := gb404) (o := .cells #[.int .i64 a2_0, .int .i64 a2_1, .string a2_2] 31 (0, 0)) (by (with_reducible repeat (first | refine blk_drewN ?_ _ | refine blk_drew ?_ | refine blk_alloc ?_ _)); exact BK404.out) hb); have n2_ := Aside0.mk (below_step (by repeat (first | (with_reducible first | exact HB.out | apply below_alloc | apply pw_below_drewN | apply below_drew1 | refine below_set ?_ GE403.out | refine below_set ?_ GE404.out) | exact HB.out)) hb); have n3_ := Aside0.mk (hbox); have n4_ := Aside0.mk ((by rw [hg]; exact (below_size (by repeat (first | (with_reducible first | exact HB.out | apply below_alloc | apply pw_below_drewN | apply below_drew1 | refine below_set ?_ GE403.out | refine below_set ?_ GE404.out) | exact HB.out))) : w.heap.size ≤ gb416)); have n5_ := Aside0.mk ((by rw [hg]; exact (below_size (by repeat (first | (with_reducible first | exact HB.out | apply below_alloc | apply pw_below_drewN | apply below_drew1 | refine below_set ?_ GE403.out | refine below_set ?_ GE404.out) | exact HB.out))) : w.heap.size ≤ gb416)); have n6_ := Aside0.mk ((by rw [hg]; exact Nat.ne_of_lt (blk_lt (g := gb403) (o := .cells #[.int .i64 a1_0, .int .i64 a1_1, .string a1_2] 31 (0, 0)) (by (with_reducible repeat (first | refine blk_drewN ?_ _ | refine blk_drew ?_ | refine blk_alloc ?_ _)); exact BK403.out)) : gb403 ≠ gb416)); have n7_ := Aside0.mk ((by rw [hg]; exact Nat.ne_of_gt (blk_lt (g := gb403) (o := .cells #[.int .i64 a1_0, .int .i64 a1_1, .string a1_2] 31 (0, 0)) (by (with_reducible repeat (first | refine blk_drewN ?_ _ | refine blk_drew ?_ | refine blk_alloc ?_ _)); exact BK403.out)) : gb416 ≠ gb403)); have n8_ := Aside0.mk ((by rw [hg]; exact Nat.ne_of_lt (blk_lt (g := gb404) (o := .cells #[.int .i64 a2_0, .int .i64 a2_1, .string a2_2] 31 (0, 0)) (by (with_reducible repeat (first | refine blk_drewN ?_ _ | refine blk_drew ?_ | refine blk_alloc ?_ _)); exact BK404.out)) : gb404 ≠ gb416)); have n9_ := Aside0.mk ((by rw [hg]; exact Nat.ne_of_gt (blk_lt (g := gb404) (o := .cells #[.int .i64 a2_0, .int .i64 a2_1, .string a2_2] 31 (0, 0)) (by (with_reducible repeat (first | refine blk_drewN ?_ _ | refine blk_drew ?_ | refine blk_alloc ?_ _)); exact BK404.out)) : gb416 ≠ gb404)); clear BK403; clear BK404; clear HB; have BK403 := n0_; have BK404 := n1_; have HB := n2_; have BK416 := n3_; have GW416 := n4_; have GE416 := n5_; have NB403_416 := n6_; have NB416_403 := n7_; have NB404_416 := n8_; have NB416_404 := n9_; clear n0_ n1_ n2_ n3_ n4_ n5_ n6_ n7_ n8_ n9_; clear hb hbox hg; have hnb65 := NB416_403.out; have hnc65 := NB403_416.out; have hnb66 := NB416_404.out; have hnc66 := NB404_416.out; have hcz67_0 : w64.cell? ⟨gb416, 0, none⟩ = some (.int .i64 0) := (blk_cell BK416.out 0).trans rfl; have hcz67_1 : w64.cell? ⟨gb416, 1, none⟩ = some (.int .i64 0) := (blk_cell BK416.out 1).trans rfl; have hcz67_2 : w64.cell? ⟨gb416, 2, none⟩ = some (.string (⟨#[]⟩ : ByteArray)) := (blk_cell BK416.out 2).trans rfl; have hfz67_0 := blk_frozen BK416.out 0; have hfz67_1 := blk_frozen BK416.out 1; have hfz67_2 := blk_frozen BK416.out 2; have hcz68_0 : w64.cell? ⟨gb404, 0, none⟩ = some (.int .i64 a2_0) := (blk_cell BK404.out 0).trans rfl; have hcz68_1 : w64.cell? ⟨gb404, 1, none⟩ = some (.int .i64 a2_1) := (blk_cell BK404.out 1).trans rfl; have hcz68_2 : w64.cell? ⟨gb404, 2, none⟩ = some (.string a2_2) := (blk_cell BK404.out 2).trans rfl; have hfz68_0 := blk_frozen BK404.out 0; have hfz68_1 := blk_frozen BK404.out 1; have hfz68_2 := blk_frozen BK404.out 2; have hcz69_0 : w64.cell? ⟨gb403, 0, none⟩ = some (.int .i64 a1_0) := (blk_cell BK403.out 0).trans rfl; have hcz69_1 : w64.cell? ⟨gb403, 1, none⟩ = some (.int .i64 a1_1) := (blk_cell BK403.out 1).trans rfl; have hcz69_2 : w64.cell? ⟨gb403, 2, none⟩ = some (.string a1_2) := (blk_cell BK403.out 2).trans rfl; have hfz69_0 := blk_frozen BK403.out 0; have hfz69_1 := blk_frozen BK403.out 1; have hfz69_2 := blk_frozen BK403.out 2) | ((with_reducible refine gate_callee (f := 43) rfl ?_); refine goesL_ (some 44) rfl rfl Try.func43 (by kernel_rfl) rfl #[.agg #[.int .i64 a2_0, .int .i64 a2_1, .string a2_2], .agg #[.int .i64 a1_0, .int .i64 a1_1, .string a1_2]] rfl (by (try simp only [List.map_toArray, List.map_cons, List.map_nil]); first | done | rfl | (simp only [List.length_drop, List.length_take]; rfl)) ?_; (with_reducible refine (textedit_Rebase.calls kj5 a2_0 a2_1 a2_2 a1_0 a1_1 a1_2 t417 t418 t419 t420 _ A41.out).mono ?_); rintro e w70 ⟨rfl, hb⟩; refine ⟨_, rfl, ?_⟩; have n0_ := Aside0.mk (blk_below (g := gb403) (o := .cells #[.int .i64 a1_0, .int .i64 a1_1, .string a1_2] 31 (0, 0)) (by (with_reducible repeat (first | refine blk_drewN ?_ _ | refine blk_drew ?_ | refine blk_alloc ?_ _)); refine blk_far ?_ NB403_416.out _; (with_reducible repeat (first | refine blk_drewN ?_ _ | refine blk_drew ?_ | refine blk_alloc ?_ _)); refine blk_far ?_ NB403_416.out _; (with_reducible repeat (first | refine blk_drewN ?_ _ | refine blk_drew ?_ | refine blk_alloc ?_ _)); refine blk_far ?_ NB403_416.out _; (with_reducible repeat (first | refine blk_drewN ?_ _ | refine blk_drew ?_ | refine blk_alloc ?_ _)); exact BK403.out) hb); have n1_ := Aside0.mk (blk_below (g := gb404) (o := .cells #[.int .i64 a2_0, .int .i64 a2_1, .string a2_2] 31 (0, 0)) (by (with_reducible repeat (first | refine blk_drewN ?_ _ | refine blk_drew ?_ | refine blk_alloc ?_ _)); refine blk_far ?_ NB404_416.out _; (with_reducible repeat (first | refine blk_drewN ?_ _ | refine blk_drew ?_ | refine blk_alloc ?_ _)); refine blk_far ?_ NB404_416.out _; (with_reducible repeat (first | refine blk_drewN ?_ _ | refine blk_drew ?_ | refine blk_alloc ?_ _)); refine blk_far ?_ NB404_416.out _; (with_reducible repeat (first | refine blk_drewN ?_ _ | refine blk_drew ?_ | refine blk_alloc ?_ _)); exact BK404.out) hb); have n2_ := Aside0.mk (blk_below (g := gb416) (o := .cells #[.int .i64 t412, .int .i64 t413, .string t414] 31 (0, 0)) (by (with_reducible repeat (first | refine blk_drewN ?_ _ | refine blk_drew ?_ | refine blk_alloc ?_ _)); refine blk_put (cs := #[.int .i64 t412, .int .i64 t413, .string (⟨#[]⟩ : ByteArray)]) ?_ 2 _ rfl; (with_reducible repeat (first | refine blk_drewN ?_ _ | refine blk_drew ?_ | refine blk_alloc ?_ _)); refine blk_put (cs := #[.int .i64 t412, .int .i64 0, .string (⟨#[]⟩ : ByteArray)]) ?_ 1 _ rfl; (with_reducible repeat (first | refine blk_drewN ?_ _ | refine blk_drew ?_ | refine blk_alloc ?_ _)); refine blk_put (cs := #[.int .i64 0, .int .i64 0, .string (⟨#[]⟩ : ByteArray)]) ?_ 0 _ rfl; (with_reducible repeat (first | refine blk_drewN ?_ _ | refine blk_drew ?_ | refine blk_alloc ?_ _)); exact BK416.out) hb); have n3_ := Aside0.mk (below_step (by repeat (first | (with_reducible first | exact HB.out | apply below_alloc | apply pw_below_drewN | apply below_drew1 | refine below_set ?_ GE403.out | refine below_set ?_ GE404.out | refine below_set ?_ GE416.out) | exact HB.out)) hb); clear BK403; clear BK404; clear BK416; clear HB; have BK403 := n0_; have BK404 := n1_; have BK416 := n2_; have HB := n3_; clear n0_ n1_ n2_ n3_; (try clear hb); (try clear hb2); (try clear hk); (try clear hi)) | ((with_reducible refine gate_dst (N := 9) rfl ?_); refine box_event ?hg (N := 9) ?hd (cs := #[.int .i64 0, .int .i64 0, .string (⟨#[]⟩ : ByteArray)]) (t := 31) ?hr ?_; (case hd => rfl); (case hg => rfl); (case hr => first | (go_simp; done) | (go_simp; rfl)); intro gb421 hg w71 hbox hb; have n0_ := Aside0.mk (blk_below (g := gb403) (o := .cells #[.int .i64 a1_0, .int .i64 a1_1, .string a1_2] 31 (0, 0)) (by (with_reducible repeat (first | refine blk_drewN ?_ _ | refine blk_drew ?_ | refine blk_alloc ?_ _)); exact BK403.out) hb); have n1_ := Aside0.mk (blk_below (g := gb404) (o := .cells #[.int .i64 a2_0, .int .i64 a2_1, .string a2_2] 31 (0, 0)) (by (with_reducible repeat (first | refine blk_drewN ?_ _ | refine blk_drew ?_ | refine blk_alloc ?_ _)); exact BK404.out) hb); have n2_ := Aside0.mk (blk_below (g := gb416) (o := .cells #[.int .i64 t412, .int .i64 t413, .string t414] 31 (0, 0)) (by (with_reducible repeat (first | refine blk_drewN ?_ _ | refine blk_drew ?_ | refine blk_alloc ?_ _)); exact BK416.out) hb); have n3_ := Aside0.mk (below_step (by repeat (first | (with_reducible first | exact HB.out | apply below_alloc | apply pw_below_drewN | apply below_drew1 | refine below_set ?_ GE403.out | refine below_set ?_ GE404.out | refine below_set ?_ GE416.out) | exact HB.out)) hb); have n4_ := Aside0.mk (hbox); have n5_ := Aside0.mk ((by rw [hg]; exact (below_size (by repeat (first | (with_reducible first | exact HB.out | apply below_alloc | apply pw_below_drewN | apply below_drew1 | refine below_set ?_ GE403.out | refine below_set ?_ GE404.out | refine below_set ?_ GE416.out) | exact HB.out))) : w.heap.size ≤ gb421)); have n6_ := Aside0.mk ((by rw [hg]; exact (below_size (by repeat (first | (with_reducible first | exact HB.out | apply below_alloc | apply pw_below_drewN | apply below_drew1 | refine below_set ?_ GE403.out | refine below_set ?_ GE404.out | refine below_set ?_ GE416.out) | exact HB.out))) : w.heap.size ≤ gb421)); have n7_ := Aside0.mk ((by rw [hg]; exact Nat.ne_of_lt (blk_lt (g := gb403) (o := .cells #[.int .i64 a1_0, .int .i64 a1_1, .string a1_2] 31 (0, 0)) (by (with_reducible repeat (first | refine blk_drewN ?_ _ | refine blk_drew ?_ | refine blk_alloc ?_ _)); exact BK403.out)) : gb403 ≠ gb421)); have n8_ := Aside0.mk ((by rw [hg]; exact Nat.ne_of_gt (blk_lt (g := gb403) (o := .cells #[.int .i64 a1_0, .int .i64 a1_1, .string a1_2] 31 (0, 0)) (by (with_reducible repeat (first | refine blk_drewN ?_ _ | refine blk_drew ?_ | refine blk_alloc ?_ _)); exact BK403.out)) : gb421 ≠ gb403)); have n9_ := Aside0.mk ((by rw [hg]; exact Nat.ne_of_lt (blk_lt (g := gb404) (o := .cells #[.int .i64 a2_0, .int .i64 a2_1, .string a2_2] 31 (0, 0)) (by (with_reducible repeat (first | refine blk_drewN ?_ _ | refine blk_drew ?_ | refine blk_alloc ?_ _)); exact BK404.out)) : gb404 ≠ gb421)); have n10_ := Aside0.mk ((by rw [hg]; exact Nat.ne_of_gt (blk_lt (g := gb404) (o := .cells #[.int .i64 a2_0, .int .i64 a2_1, .string a2_2] 31 (0, 0)) (by (with_reducible repeat (first | refine blk_drewN ?_ _ | refine blk_drew ?_ | refine blk_alloc ?_ _)); exact BK404.out)) : gb421 ≠ gb404)); have n11_ := Aside0.mk ((by rw [hg]; exact Nat.ne_of_lt (blk_lt (g := gb416) (o := .cells #[.int .i64 t412, .int .i64 t413, .string t414] 31 (0, 0)) (by (with_reducible repeat (first | refine blk_drewN ?_ _ | refine blk_drew ?_ | refine blk_alloc ?_ _)); exact BK416.out)) : gb416 ≠ gb421)); have n12_ := Aside0.mk ((by rw [hg]; exact Nat.ne_of_gt (blk_lt (g := gb416) (o := .cells #[.int .i64 t412, .int .i64 t413, .string t414] 31 (0, 0)) (by (with_reducible repeat (first | refine blk_drewN ?_ _ | refine blk_drew ?_ | refine blk_alloc ?_ _)); exact BK416.out)) : gb421 ≠ gb416)); clear BK403; clear BK404; clear BK416; clear HB; have BK403 := n0_; have BK404 := n1_; have BK416 := n2_; have HB := n3_; have BK421 := n4_; have GW421 := n5_; have GE421 := n6_; have NB403_421 := n7_; have NB421_403 := n8_; have NB404_421 := n9_; have NB421_404 := n10_; have NB416_421 := n11_; have NB421_416 := n12_; clear n0_ n1_ n2_ n3_ n4_ n5_ n6_ n7_ n8_ n9_ n10_ n11_ n12_; clear hb hbox hg; have hnb72 := NB421_403.out; have hnc72 := NB403_421.out; have hnb73 := NB421_404.out; have hnc73 := NB404_421.out; have hnb74 := NB421_416.out; have hnc74 := NB416_421.out; have hcz75_0 : w71.cell? ⟨gb421, 0, none⟩ = some (.int .i64 0) := (blk_cell BK421.out 0).trans rfl; have hcz75_1 : w71.cell? ⟨gb421, 1, none⟩ = some (.int .i64 0) := (blk_cell BK421.out 1).trans rfl; have hcz75_2 : w71.cell? ⟨gb421, 2, none⟩ = some (.string (⟨#[]⟩ : ByteArray)) := (blk_cell BK421.out 2).trans rfl; have hfz75_0 := blk_frozen BK421.out 0; have hfz75_1 := blk_frozen BK421.out 1; have hfz75_2 := blk_frozen BK421.out 2))
            (try simp only [Act.put, List.setIfInBounds_toArray, List.set_cons_zero, List.set_cons_succ])
            go_cut [68] (fun v68 wc => ∃ (kq : Nat) (x68_58 : Bool), v68 = .bool x68_58 ∧ Aside0 (emendatelaw03_TexteditRebaseCommutes.j1 kq a0 x68_58 a1_0 a1_1 a1_2 a2_0 a2_1 a2_2 t412 t413 t414 t417 t418 t419 = some r) ∧ Aside0 (kq ≤ kj5) ∧ Aside0 (wc.heap[gb403]? = some (.cells #[.int .i64 a1_0, .int .i64 a1_1, .string a1_2] 31 (0, 0))) ∧ Aside0 (wc.heap[gb404]? = some (.cells #[.int .i64 a2_0, .int .i64 a2_1, .string a2_2] 31 (0, 0))) ∧ Aside0 (wc.heap[gb416]? = some (.cells #[.int .i64 t412, .int .i64 t413, .string t414] 31 (0, 0))) ∧ Aside0 (wc.heap[gb421]? = some (.cells #[.int .i64 t417, .int .i64 t418, .string t419] 31 (0, 0))) ∧ Aside0 (Below w.heap.size w wc))
            case first =>
              have H := HC59.out
              clear HC59
              by_cases c76 : t415 = true
              · subst c76
                have H1 : (if a1_1 = 0 then (if a2_1 = 0 then (emendatelaw03_TexteditRebaseCommutes.j1 kj5 a0 (a1_0 == a2_0) a1_0 a1_1 a1_2 a2_0 a2_1 a2_2 t412 t413 t414 t417 t418 t419) else (emendatelaw03_TexteditRebaseCommutes.j1 kj5 a0 false a1_0 a1_1 a1_2 a2_0 a2_1 a2_2 t412 t413 t414 t417 t418 t419)) else (emendatelaw03_TexteditRebaseCommutes.j1 kj5 a0 false a1_0 a1_1 a1_2 a2_0 a2_1 a2_2 t412 t413 t414 t417 t418 t419)) = some r := by rw [if_pos rfl] at H; exact H
                clear H
                have H := H1
                clear H1
                by_cases c77 : a1_1 = 0
                · rw [if_pos c77] at H
                  have c77b0 : (a1_1 == 0) = true := beq_iff_eq.mpr c77
                  have c77b1 : (a1_1 != 0) = false := bne_eq_false_iff_eq.mpr c77
                  clear c77
                  (first | rw [c77b0] | (simp only [i64_w, i32_w]; rw [c77b0]) | skip)
                  by_cases c78 : a2_1 = 0
                  · rw [if_pos c78] at H
                    have c78b0 : (a2_1 == 0) = true := beq_iff_eq.mpr c78
                    have c78b1 : (a2_1 != 0) = false := bne_eq_false_iff_eq.mpr c78
                    clear c78
                    have H' := Aside0.mk H
                    clear H
                    have hnb79 := NB403_404.out
                    have hnc79 := NB404_403.out
                    have hnb80 := NB403_416.out
                    have hnc80 := NB416_403.out
                    have hnb81 := NB403_421.out
                    have hnc81 := NB421_403.out
                    have hcz82_0 : w71.cell? ⟨gb403, 0, none⟩ = some (.int .i64 a1_0) := (blk_cell BK403.out 0).trans rfl
                    have hcz82_1 : w71.cell? ⟨gb403, 1, none⟩ = some (.int .i64 a1_1) := (blk_cell BK403.out 1).trans rfl
                    have hcz82_2 : w71.cell? ⟨gb403, 2, none⟩ = some (.string a1_2) := (blk_cell BK403.out 2).trans rfl
                    have hfz82_0 := blk_frozen BK403.out 0
                    have hfz82_1 := blk_frozen BK403.out 1
                    have hfz82_2 := blk_frozen BK403.out 2
                    have hnb83 := NB404_416.out
                    have hnc83 := NB416_404.out
                    have hnb84 := NB404_421.out
                    have hnc84 := NB421_404.out
                    have hcz85_0 : w71.cell? ⟨gb404, 0, none⟩ = some (.int .i64 a2_0) := (blk_cell BK404.out 0).trans rfl
                    have hcz85_1 : w71.cell? ⟨gb404, 1, none⟩ = some (.int .i64 a2_1) := (blk_cell BK404.out 1).trans rfl
                    have hcz85_2 : w71.cell? ⟨gb404, 2, none⟩ = some (.string a2_2) := (blk_cell BK404.out 2).trans rfl
                    have hfz85_0 := blk_frozen BK404.out 0
                    have hfz85_1 := blk_frozen BK404.out 1
                    have hfz85_2 := blk_frozen BK404.out 2
                    go_wp2
                    go_meet
                    case rel => exact ⟨_, ((a1_0 == a2_0)), (by first | rfl | (simp; done) | (simp [*]; done)), H', ⟨by have := HJ5.out; first | omega | exact Nat.le_refl _⟩, ⟨by (with_reducible repeat (first | refine blk_drewN ?_ _ | refine blk_drew ?_ | refine blk_alloc ?_ _)); refine blk_far ?_ NB403_421.out _; (with_reducible repeat (first | refine blk_drewN ?_ _ | refine blk_drew ?_ | refine blk_alloc ?_ _)); refine blk_far ?_ NB403_421.out _; (with_reducible repeat (first | refine blk_drewN ?_ _ | refine blk_drew ?_ | refine blk_alloc ?_ _)); refine blk_far ?_ NB403_421.out _; (with_reducible repeat (first | refine blk_drewN ?_ _ | refine blk_drew ?_ | refine blk_alloc ?_ _)); exact BK403.out⟩, ⟨by (with_reducible repeat (first | refine blk_drewN ?_ _ | refine blk_drew ?_ | refine blk_alloc ?_ _)); refine blk_far ?_ NB404_421.out _; (with_reducible repeat (first | refine blk_drewN ?_ _ | refine blk_drew ?_ | refine blk_alloc ?_ _)); refine blk_far ?_ NB404_421.out _; (with_reducible repeat (first | refine blk_drewN ?_ _ | refine blk_drew ?_ | refine blk_alloc ?_ _)); refine blk_far ?_ NB404_421.out _; (with_reducible repeat (first | refine blk_drewN ?_ _ | refine blk_drew ?_ | refine blk_alloc ?_ _)); exact BK404.out⟩, ⟨by (with_reducible repeat (first | refine blk_drewN ?_ _ | refine blk_drew ?_ | refine blk_alloc ?_ _)); refine blk_far ?_ NB416_421.out _; (with_reducible repeat (first | refine blk_drewN ?_ _ | refine blk_drew ?_ | refine blk_alloc ?_ _)); refine blk_far ?_ NB416_421.out _; (with_reducible repeat (first | refine blk_drewN ?_ _ | refine blk_drew ?_ | refine blk_alloc ?_ _)); refine blk_far ?_ NB416_421.out _; (with_reducible repeat (first | refine blk_drewN ?_ _ | refine blk_drew ?_ | refine blk_alloc ?_ _)); exact BK416.out⟩, ⟨by (with_reducible repeat (first | refine blk_drewN ?_ _ | refine blk_drew ?_ | refine blk_alloc ?_ _)); refine blk_put (cs := #[.int .i64 t417, .int .i64 t418, .string (⟨#[]⟩ : ByteArray)]) ?_ 2 _ rfl; (with_reducible repeat (first | refine blk_drewN ?_ _ | refine blk_drew ?_ | refine blk_alloc ?_ _)); refine blk_put (cs := #[.int .i64 t417, .int .i64 0, .string (⟨#[]⟩ : ByteArray)]) ?_ 1 _ rfl; (with_reducible repeat (first | refine blk_drewN ?_ _ | refine blk_drew ?_ | refine blk_alloc ?_ _)); refine blk_put (cs := #[.int .i64 0, .int .i64 0, .string (⟨#[]⟩ : ByteArray)]) ?_ 0 _ rfl; (with_reducible repeat (first | refine blk_drewN ?_ _ | refine blk_drew ?_ | refine blk_alloc ?_ _)); exact BK421.out⟩, ⟨by repeat (first | (with_reducible first | exact HB.out | apply below_alloc | apply pw_below_drewN | apply below_drew1 | refine below_set ?_ GE403.out | refine below_set ?_ GE404.out | refine below_set ?_ GE416.out | refine below_set ?_ GE421.out) | exact HB.out)⟩⟩
                  · rw [if_neg c78] at H
                    have c78b0 : (a2_1 == 0) = false := beq_eq_false_iff_ne.mpr c78
                    have c78b1 : (a2_1 != 0) = true := bne_iff_ne.mpr c78
                    have H' := Aside0.mk H
                    clear H
                    have hnb86 := NB403_404.out
                    have hnc86 := NB404_403.out
                    have hnb87 := NB403_416.out
                    have hnc87 := NB416_403.out
                    have hnb88 := NB403_421.out
                    have hnc88 := NB421_403.out
                    have hcz89_0 : w71.cell? ⟨gb403, 0, none⟩ = some (.int .i64 a1_0) := (blk_cell BK403.out 0).trans rfl
                    have hcz89_1 : w71.cell? ⟨gb403, 1, none⟩ = some (.int .i64 a1_1) := (blk_cell BK403.out 1).trans rfl
                    have hcz89_2 : w71.cell? ⟨gb403, 2, none⟩ = some (.string a1_2) := (blk_cell BK403.out 2).trans rfl
                    have hfz89_0 := blk_frozen BK403.out 0
                    have hfz89_1 := blk_frozen BK403.out 1
                    have hfz89_2 := blk_frozen BK403.out 2
                    have hnb90 := NB404_416.out
                    have hnc90 := NB416_404.out
                    have hnb91 := NB404_421.out
                    have hnc91 := NB421_404.out
                    have hcz92_0 : w71.cell? ⟨gb404, 0, none⟩ = some (.int .i64 a2_0) := (blk_cell BK404.out 0).trans rfl
                    have hcz92_1 : w71.cell? ⟨gb404, 1, none⟩ = some (.int .i64 a2_1) := (blk_cell BK404.out 1).trans rfl
                    have hcz92_2 : w71.cell? ⟨gb404, 2, none⟩ = some (.string a2_2) := (blk_cell BK404.out 2).trans rfl
                    have hfz92_0 := blk_frozen BK404.out 0
                    have hfz92_1 := blk_frozen BK404.out 1
                    have hfz92_2 := blk_frozen BK404.out 2
                    go_wp2
                    go_meet
                    case rel => exact ⟨_, (false), (by first | rfl | (simp; done) | (simp [*]; done)), H', ⟨by have := HJ5.out; first | omega | exact Nat.le_refl _⟩, ⟨by (with_reducible repeat (first | refine blk_drewN ?_ _ | refine blk_drew ?_ | refine blk_alloc ?_ _)); refine blk_far ?_ NB403_421.out _; (with_reducible repeat (first | refine blk_drewN ?_ _ | refine blk_drew ?_ | refine blk_alloc ?_ _)); refine blk_far ?_ NB403_421.out _; (with_reducible repeat (first | refine blk_drewN ?_ _ | refine blk_drew ?_ | refine blk_alloc ?_ _)); refine blk_far ?_ NB403_421.out _; (with_reducible repeat (first | refine blk_drewN ?_ _ | refine blk_drew ?_ | refine blk_alloc ?_ _)); exact BK403.out⟩, ⟨by (with_reducible repeat (first | refine blk_drewN ?_ _ | refine blk_drew ?_ | refine blk_alloc ?_ _)); refine blk_far ?_ NB404_421.out _; (with_reducible repeat (first | refine blk_drewN ?_ _ | refine blk_drew ?_ | refine blk_alloc ?_ _)); refine blk_far ?_ NB404_421.out _; (with_reducible repeat (first | refine blk_drewN ?_ _ | refine blk_drew ?_ | refine blk_alloc ?_ _)); refine blk_far ?_ NB404_421.out _; (with_reducible repeat (first | refine blk_drewN ?_ _ | refine blk_drew ?_ | refine blk_alloc ?_ _)); exact BK404.out⟩, ⟨by (with_reducible repeat (first | refine blk_drewN ?_ _ | refine blk_drew ?_ | refine blk_alloc ?_ _)); refine blk_far ?_ NB416_421.out _; (with_reducible repeat (first | refine blk_drewN ?_ _ | refine blk_drew ?_ | refine blk_alloc ?_ _)); refine blk_far ?_ NB416_421.out _; (with_reducible repeat (first | refine blk_drewN ?_ _ | refine blk_drew ?_ | refine blk_alloc ?_ _)); refine blk_far ?_ NB416_421.out _; (with_reducible repeat (first | refine blk_drewN ?_ _ | refine blk_drew ?_ | refine blk_alloc ?_ _)); exact BK416.out⟩, ⟨by (with_reducible repeat (first | refine blk_drewN ?_ _ | refine blk_drew ?_ | refine blk_alloc ?_ _)); refine blk_put (cs := #[.int .i64 t417, .int .i64 t418, .string (⟨#[]⟩ : ByteArray)]) ?_ 2 _ rfl; (with_reducible repeat (first | refine blk_drewN ?_ _ | refine blk_drew ?_ | refine blk_alloc ?_ _)); refine blk_put (cs := #[.int .i64 t417, .int .i64 0, .string (⟨#[]⟩ : ByteArray)]) ?_ 1 _ rfl; (with_reducible repeat (first | refine blk_drewN ?_ _ | refine blk_drew ?_ | refine blk_alloc ?_ _)); refine blk_put (cs := #[.int .i64 0, .int .i64 0, .string (⟨#[]⟩ : ByteArray)]) ?_ 0 _ rfl; (with_reducible repeat (first | refine blk_drewN ?_ _ | refine blk_drew ?_ | refine blk_alloc ?_ _)); exact BK421.out⟩, ⟨by repeat (first | (with_reducible first | exact HB.out | apply below_alloc | apply pw_below_drewN | apply below_drew1 | refine below_set ?_ GE403.out | refine below_set ?_ GE404.out | refine below_set ?_ GE416.out | refine below_set ?_ GE421.out) | exact HB.out)⟩⟩
                · rw [if_neg c77] at H
                  have c77b0 : (a1_1 == 0) = false := beq_eq_false_iff_ne.mpr c77
                  have c77b1 : (a1_1 != 0) = true := bne_iff_ne.mpr c77
                  (first | rw [c77b0] | (simp only [i64_w, i32_w]; rw [c77b0]) | skip)
                  have H' := Aside0.mk H
                  clear H
                  have hnb93 := NB403_404.out
                  have hnc93 := NB404_403.out
                  have hnb94 := NB403_416.out
                  have hnc94 := NB416_403.out
                  have hnb95 := NB403_421.out
                  have hnc95 := NB421_403.out
                  have hcz96_0 : w71.cell? ⟨gb403, 0, none⟩ = some (.int .i64 a1_0) := (blk_cell BK403.out 0).trans rfl
                  have hcz96_1 : w71.cell? ⟨gb403, 1, none⟩ = some (.int .i64 a1_1) := (blk_cell BK403.out 1).trans rfl
                  have hcz96_2 : w71.cell? ⟨gb403, 2, none⟩ = some (.string a1_2) := (blk_cell BK403.out 2).trans rfl
                  have hfz96_0 := blk_frozen BK403.out 0
                  have hfz96_1 := blk_frozen BK403.out 1
                  have hfz96_2 := blk_frozen BK403.out 2
                  go_wp2
                  go_meet
                  case rel => exact ⟨_, (false), (by first | rfl | (simp; done) | (simp [*]; done)), H', ⟨by have := HJ5.out; first | omega | exact Nat.le_refl _⟩, ⟨by (with_reducible repeat (first | refine blk_drewN ?_ _ | refine blk_drew ?_ | refine blk_alloc ?_ _)); refine blk_far ?_ NB403_421.out _; (with_reducible repeat (first | refine blk_drewN ?_ _ | refine blk_drew ?_ | refine blk_alloc ?_ _)); refine blk_far ?_ NB403_421.out _; (with_reducible repeat (first | refine blk_drewN ?_ _ | refine blk_drew ?_ | refine blk_alloc ?_ _)); refine blk_far ?_ NB403_421.out _; (with_reducible repeat (first | refine blk_drewN ?_ _ | refine blk_drew ?_ | refine blk_alloc ?_ _)); exact BK403.out⟩, ⟨by (with_reducible repeat (first | refine blk_drewN ?_ _ | refine blk_drew ?_ | refine blk_alloc ?_ _)); refine blk_far ?_ NB404_421.out _; (with_reducible repeat (first | refine blk_drewN ?_ _ | refine blk_drew ?_ | refine blk_alloc ?_ _)); refine blk_far ?_ NB404_421.out _; (with_reducible repeat (first | refine blk_drewN ?_ _ | refine blk_drew ?_ | refine blk_alloc ?_ _)); refine blk_far ?_ NB404_421.out _; (with_reducible repeat (first | refine blk_drewN ?_ _ | refine blk_drew ?_ | refine blk_alloc ?_ _)); exact BK404.out⟩, ⟨by (with_reducible repeat (first | refine blk_drewN ?_ _ | refine blk_drew ?_ | refine blk_alloc ?_ _)); refine blk_far ?_ NB416_421.out _; (with_reducible repeat (first | refine blk_drewN ?_ _ | refine blk_drew ?_ | refine blk_alloc ?_ _)); refine blk_far ?_ NB416_421.out _; (with_reducible repeat (first | refine blk_drewN ?_ _ | refine blk_drew ?_ | refine blk_alloc ?_ _)); refine blk_far ?_ NB416_421.out _; (with_reducible repeat (first | refine blk_drewN ?_ _ | refine blk_drew ?_ | refine blk_alloc ?_ _)); exact BK416.out⟩, ⟨by (with_reducible repeat (first | refine blk_drewN ?_ _ | refine blk_drew ?_ | refine blk_alloc ?_ _)); refine blk_put (cs := #[.int .i64 t417, .int .i64 t418, .string (⟨#[]⟩ : ByteArray)]) ?_ 2 _ rfl; (with_reducible repeat (first | refine blk_drewN ?_ _ | refine blk_drew ?_ | refine blk_alloc ?_ _)); refine blk_put (cs := #[.int .i64 t417, .int .i64 0, .string (⟨#[]⟩ : ByteArray)]) ?_ 1 _ rfl; (with_reducible repeat (first | refine blk_drewN ?_ _ | refine blk_drew ?_ | refine blk_alloc ?_ _)); refine blk_put (cs := #[.int .i64 0, .int .i64 0, .string (⟨#[]⟩ : ByteArray)]) ?_ 0 _ rfl; (with_reducible repeat (first | refine blk_drewN ?_ _ | refine blk_drew ?_ | refine blk_alloc ?_ _)); exact BK421.out⟩, ⟨by repeat (first | (with_reducible first | exact HB.out | apply below_alloc | apply pw_below_drewN | apply below_drew1 | refine below_set ?_ GE403.out | refine below_set ?_ GE404.out | refine below_set ?_ GE416.out | refine below_set ?_ GE421.out) | exact HB.out)⟩⟩
              · replace c76 := Bool.eq_false_iff.mpr c76
                subst c76
                have H1 : (emendatelaw03_TexteditRebaseCommutes.j1 kj5 a0 true a1_0 a1_1 a1_2 a2_0 a2_1 a2_2 t412 t413 t414 t417 t418 t419) = some r := by rw [if_neg (show ¬ (false = true) by decide)] at H; exact H
                clear H
                have H := H1
                clear H1
                have H' := Aside0.mk H
                clear H
                go_wp2
                go_meet
                case rel => exact ⟨_, (true), (by first | rfl | (simp; done) | (simp [*]; done)), H', ⟨by have := HJ5.out; first | omega | exact Nat.le_refl _⟩, ⟨by (with_reducible repeat (first | refine blk_drewN ?_ _ | refine blk_drew ?_ | refine blk_alloc ?_ _)); refine blk_far ?_ NB403_421.out _; (with_reducible repeat (first | refine blk_drewN ?_ _ | refine blk_drew ?_ | refine blk_alloc ?_ _)); refine blk_far ?_ NB403_421.out _; (with_reducible repeat (first | refine blk_drewN ?_ _ | refine blk_drew ?_ | refine blk_alloc ?_ _)); refine blk_far ?_ NB403_421.out _; (with_reducible repeat (first | refine blk_drewN ?_ _ | refine blk_drew ?_ | refine blk_alloc ?_ _)); exact BK403.out⟩, ⟨by (with_reducible repeat (first | refine blk_drewN ?_ _ | refine blk_drew ?_ | refine blk_alloc ?_ _)); refine blk_far ?_ NB404_421.out _; (with_reducible repeat (first | refine blk_drewN ?_ _ | refine blk_drew ?_ | refine blk_alloc ?_ _)); refine blk_far ?_ NB404_421.out _; (with_reducible repeat (first | refine blk_drewN ?_ _ | refine blk_drew ?_ | refine blk_alloc ?_ _)); refine blk_far ?_ NB404_421.out _; (with_reducible repeat (first | refine blk_drewN ?_ _ | refine blk_drew ?_ | refine blk_alloc ?_ _)); exact BK404.out⟩, ⟨by (with_reducible repeat (first | refine blk_drewN ?_ _ | refine blk_drew ?_ | refine blk_alloc ?_ _)); refine blk_far ?_ NB416_421.out _; (with_reducible repeat (first | refine blk_drewN ?_ _ | refine blk_drew ?_ | refine blk_alloc ?_ _)); refine blk_far ?_ NB416_421.out _; (with_reducible repeat (first | refine blk_drewN ?_ _ | refine blk_drew ?_ | refine blk_alloc ?_ _)); refine blk_far ?_ NB416_421.out _; (with_reducible repeat (first | refine blk_drewN ?_ _ | refine blk_drew ?_ | refine blk_alloc ?_ _)); exact BK416.out⟩, ⟨by (with_reducible repeat (first | refine blk_drewN ?_ _ | refine blk_drew ?_ | refine blk_alloc ?_ _)); refine blk_put (cs := #[.int .i64 t417, .int .i64 t418, .string (⟨#[]⟩ : ByteArray)]) ?_ 2 _ rfl; (with_reducible repeat (first | refine blk_drewN ?_ _ | refine blk_drew ?_ | refine blk_alloc ?_ _)); refine blk_put (cs := #[.int .i64 t417, .int .i64 0, .string (⟨#[]⟩ : ByteArray)]) ?_ 1 _ rfl; (with_reducible repeat (first | refine blk_drewN ?_ _ | refine blk_drew ?_ | refine blk_alloc ?_ _)); refine blk_put (cs := #[.int .i64 0, .int .i64 0, .string (⟨#[]⟩ : ByteArray)]) ?_ 0 _ rfl; (with_reducible repeat (first | refine blk_drewN ?_ _ | refine blk_drew ?_ | refine blk_alloc ?_ _)); exact BK421.out⟩, ⟨by repeat (first | (with_reducible first | exact HB.out | apply below_alloc | apply pw_below_drewN | apply below_drew1 | refine below_set ?_ GE403.out | refine below_set ?_ GE404.out | refine below_set ?_ GE416.out | refine below_set ?_ GE421.out) | exact HB.out)⟩⟩
            case rest =>
              clear HC59
              try clear c1
              try clear c2
              try clear p2
              try clear c3
              try clear c4
              try clear c5
              try clear c6
              try clear c7
              try clear c8
              try clear c9
              try clear c11
              try clear c13
              try clear c15
              try clear c17
              try clear c25
              try clear c31
              try clear c32
              try clear c33
              try clear c39
              try clear c42
              try clear c42b0
              try clear c42b1
              try clear c42b2
              try clear c43
              try clear c48
              try clear c49
              try clear c55
              try clear c56
              try clear c57
              try clear c60
              try clear c65
              try clear c66
              try clear c72
              try clear c73
              try clear c74
              try clear c76
              try clear c77
              try clear c77b0
              try clear c77b1
              try clear c78
              try clear c78b0
              try clear c78b1
              try clear c79
              try clear c80
              try clear c81
              try clear c83
              try clear c84
              try clear c86
              try clear c87
              try clear c88
              try clear c90
              try clear c91
              try clear c93
              try clear c94
              try clear c95
              try clear hcz16_0
              try clear hcz16_1
              try clear hcz16_2
              try clear hcz17_0
              try clear hcz17_1
              try clear hcz17_2
              try clear hcz21_0
              try clear hcz21_1
              try clear hcz21_2
              try clear hcz23_0
              try clear hcz23_1
              try clear hcz23_2
              try clear hcz26_0
              try clear hcz26_1
              try clear hcz26_2
              try clear hcz27_0
              try clear hcz27_1
              try clear hcz27_2
              try clear hcz31_0
              try clear hcz31_1
              try clear hcz31_2
              try clear hcz34_0
              try clear hcz34_1
              try clear hcz34_2
              try clear hcz35_0
              try clear hcz35_1
              try clear hcz35_2
              try clear hcz44_0
              try clear hcz44_1
              try clear hcz44_2
              try clear hcz45_0
              try clear hcz45_1
              try clear hcz45_2
              try clear hcz50_0
              try clear hcz50_1
              try clear hcz50_2
              try clear hcz51_0
              try clear hcz51_1
              try clear hcz51_2
              try clear hcz52_0
              try clear hcz52_1
              try clear hcz52_2
              try clear hcz58_0
              try clear hcz58_1
              try clear hcz58_2
              try clear hcz61_0
              try clear hcz61_1
              try clear hcz61_2
              try clear hcz62_0
              try clear hcz62_1
              try clear hcz62_2
              try clear hcz67_0
              try clear hcz67_1
              try clear hcz67_2
              try clear hcz68_0
              try clear hcz68_1
              try clear hcz68_2
              try clear hcz69_0
              try clear hcz69_1
              try clear hcz69_2
              try clear hcz75_0
              try clear hcz75_1
              try clear hcz75_2
              try clear hcz82_0
              try clear hcz82_1
              try clear hcz82_2
              try clear hcz85_0
              try clear hcz85_1
              try clear hcz85_2
              try clear hcz89_0
              try clear hcz89_1
              try clear hcz89_2
              try clear hcz92_0
              try clear hcz92_1
              try clear hcz92_2
              try clear hcz96_0
              try clear hcz96_1
              try clear hcz96_2
              try clear hfz16_0
              try clear hfz16_1
              try clear hfz16_2
              try clear hfz17_0
              try clear hfz17_1
              try clear hfz17_2
              try clear hfz21_0
              try clear hfz21_1
              try clear hfz21_2
              try clear hfz23_0
              try clear hfz23_1
              try clear hfz23_2
              try clear hfz26_0
              try clear hfz26_1
              try clear hfz26_2
              try clear hfz27_0
              try clear hfz27_1
              try clear hfz27_2
              try clear hfz31_0
              try clear hfz31_1
              try clear hfz31_2
              try clear hfz34_0
              try clear hfz34_1
              try clear hfz34_2
              try clear hfz35_0
              try clear hfz35_1
              try clear hfz35_2
              try clear hfz44_0
              try clear hfz44_1
              try clear hfz44_2
              try clear hfz45_0
              try clear hfz45_1
              try clear hfz45_2
              try clear hfz50_0
              try clear hfz50_1
              try clear hfz50_2
              try clear hfz51_0
              try clear hfz51_1
              try clear hfz51_2
              try clear hfz52_0
              try clear hfz52_1
              try clear hfz52_2
              try clear hfz58_0
              try clear hfz58_1
              try clear hfz58_2
              try clear hfz61_0
              try clear hfz61_1
              try clear hfz61_2
              try clear hfz62_0
              try clear hfz62_1
              try clear hfz62_2
              try clear hfz67_0
              try clear hfz67_1
              try clear hfz67_2
              try clear hfz68_0
              try clear hfz68_1
              try clear hfz68_2
              try clear hfz69_0
              try clear hfz69_1
              try clear hfz69_2
              try clear hfz75_0
              try clear hfz75_1
              try clear hfz75_2
              try clear hfz82_0
              try clear hfz82_1
              try clear hfz82_2
              try clear hfz85_0
              try clear hfz85_1
              try clear hfz85_2
              try clear hfz89_0
              try clear hfz89_1
              try clear hfz89_2
              try clear hfz92_0
              try clear hfz92_1
              try clear hfz92_2
              try clear hfz96_0
              try clear hfz96_1
              try clear hfz96_2
              try clear p2
              obtain ⟨kq, x68_58, rfl, HA, HJ58, BK403, BK404, BK416, BK421, HB⟩ := hcut
              cases kq with
              | zero => exact absurd HA.out (by simp [emendatelaw03_TexteditRebaseCommutes.j1])
              | succ kj58 =>
                have H := HA.out
                clear HA
                simp only [emendatelaw03_TexteditRebaseCommutes.j1] at H
                by_cases c97 : x68_58 = true
                · subst c97
                  have H1 : (some true) = some r := by rw [if_pos rfl] at H; exact H
                  clear H
                  have H := H1
                  clear H1
                  obtain rfl := Option.some.inj H
                  go_wp2
                  go_ret
                  exact ⟨by first | rfl | (simp [errW_none, errW_some] <;> rfl) | (simp [*, errW_none, errW_some] <;> rfl), by repeat (first | (with_reducible first | exact HB.out | apply below_alloc | apply pw_below_drewN | apply below_drew1 | refine below_set ?_ GE403.out | refine below_set ?_ GE404.out | refine below_set ?_ GE416.out | refine below_set ?_ GE421.out) | exact HB.out)⟩
                · replace c97 := Bool.eq_false_iff.mpr c97
                  subst c97
                  have H1 : ((textedit_ApplyAll.f kj58 a0 (([(⟨a1_0, a1_1, a1_2⟩ : S31), (⟨t417, t418, t419⟩ : S31)] : List (S31)))).bind fun bt425 => ((textedit_ApplyAll.f kj58 a0 (([(⟨a2_0, a2_1, a2_2⟩ : S31), (⟨t412, t413, t414⟩ : S31)] : List (S31)))).bind fun bt430 => (if bt425.2 = 0 then (if bt430.2 = 0 then (some (bt425.1.toList == bt430.1.toList)) else (some false)) else (some false)))) = some r := by rw [if_neg (show ¬ (false = true) by decide)] at H; exact H
                  clear H
                  have H := H1
                  clear H1
                  obtain ⟨y422, hy422⟩ : ∃ y_ : List (S31), y_ = (([(⟨a1_0, a1_1, a1_2⟩ : S31), (⟨t417, t418, t419⟩ : S31)] : List (S31))) := ⟨_, rfl⟩
                  replace H : ((textedit_ApplyAll.f kj58 a0 y422).bind fun bt425 => ((textedit_ApplyAll.f kj58 a0 (([(⟨a2_0, a2_1, a2_2⟩ : S31), (⟨t412, t413, t414⟩ : S31)] : List (S31)))).bind fun bt430 => (if bt425.2 = 0 then (if bt430.2 = 0 then (some (bt425.1.toList == bt430.1.toList)) else (some false)) else (some false)))) = some r := by first | (rw [hy422]; with_reducible exact H) | (have H2_ := (Option.bind_some _ _).symm.trans H; rw [hy422]; with_reducible exact H2_) | (have H2_ := (Option.bind_some _ _).symm.trans H; with_reducible exact H2_) | with_reducible exact H | (rw [hy422]; exact H) | exact H
                  have Ny422 := Aside0.mk hy422
                  clear hy422
                  replace H := Option.bind_eq_some_iff.mp H
                  obtain ⟨⟨t425, t426⟩, A980, H⟩ := H
                  replace H : ((textedit_ApplyAll.f kj58 a0 (([(⟨a2_0, a2_1, a2_2⟩ : S31), (⟨t412, t413, t414⟩ : S31)] : List (S31)))).bind fun bt430 => (if t426 = 0 then (if bt430.2 = 0 then (some (t425.toList == bt430.1.toList)) else (some false)) else (some false))) = some r := H
                  have A98 := Aside0.mk A980
                  clear A980
                  obtain ⟨y427, hy427⟩ : ∃ y_ : List (S31), y_ = (([(⟨a2_0, a2_1, a2_2⟩ : S31), (⟨t412, t413, t414⟩ : S31)] : List (S31))) := ⟨_, rfl⟩
                  replace H : ((textedit_ApplyAll.f kj58 a0 y427).bind fun bt430 => (if t426 = 0 then (if bt430.2 = 0 then (some (t425.toList == bt430.1.toList)) else (some false)) else (some false))) = some r := by first | (rw [hy427]; with_reducible exact H) | (have H2_ := (Option.bind_some _ _).symm.trans H; rw [hy427]; with_reducible exact H2_) | (have H2_ := (Option.bind_some _ _).symm.trans H; with_reducible exact H2_) | with_reducible exact H | (rw [hy427]; exact H) | exact H
                  have Ny427 := Aside0.mk hy427
                  clear hy427
                  replace H := Option.bind_eq_some_iff.mp H
                  obtain ⟨⟨t430, t431⟩, A990, H⟩ := H
                  replace H : (if t426 = 0 then (if t431 = 0 then (some (t425.toList == t430.toList)) else (some false)) else (some false)) = some r := H
                  have A99 := Aside0.mk A990
                  clear A990
                  by_cases c100 : t426 = 0
                  · rw [if_pos c100] at H
                    have c100b0 : (t426 == 0) = true := beq_iff_eq.mpr c100
                    have c100b1 : (t426 != 0) = false := bne_eq_false_iff_eq.mpr c100
                    clear c100
                    by_cases c101 : t431 = 0
                    · rw [if_pos c101] at H
                      have c101b0 : (t431 == 0) = true := beq_iff_eq.mpr c101
                      have c101b1 : (t431 != 0) = false := bne_eq_false_iff_eq.mpr c101
                      clear c101
                      obtain rfl := Option.some.inj H
                      have hnb102 := NB403_404.out
                      have hnc102 := NB404_403.out
                      have hnb103 := NB403_416.out
                      have hnc103 := NB416_403.out
                      have hnb104 := NB403_421.out
                      have hnc104 := NB421_403.out
                      have hcz105_0 : wc.cell? ⟨gb403, 0, none⟩ = some (.int .i64 a1_0) := (blk_cell BK403.out 0).trans rfl
                      have hcz105_1 : wc.cell? ⟨gb403, 1, none⟩ = some (.int .i64 a1_1) := (blk_cell BK403.out 1).trans rfl
                      have hcz105_2 : wc.cell? ⟨gb403, 2, none⟩ = some (.string a1_2) := (blk_cell BK403.out 2).trans rfl
                      have hfz105_0 := blk_frozen BK403.out 0
                      have hfz105_1 := blk_frozen BK403.out 1
                      have hfz105_2 := blk_frozen BK403.out 2
                      have hnb106 := NB421_404.out
                      have hnc106 := NB404_421.out
                      have hnb107 := NB421_416.out
                      have hnc107 := NB416_421.out
                      have hcz108_0 : wc.cell? ⟨gb421, 0, none⟩ = some (.int .i64 t417) := (blk_cell BK421.out 0).trans rfl
                      have hcz108_1 : wc.cell? ⟨gb421, 1, none⟩ = some (.int .i64 t418) := (blk_cell BK421.out 1).trans rfl
                      have hcz108_2 : wc.cell? ⟨gb421, 2, none⟩ = some (.string t419) := (blk_cell BK421.out 2).trans rfl
                      have hfz108_0 := blk_frozen BK421.out 0
                      have hfz108_1 := blk_frozen BK421.out 1
                      have hfz108_2 := blk_frozen BK421.out 2
                      go_wp2_with (first | ((with_reducible refine gate_dst (N := 73) rfl ?_); refine Kd.R_lit k31 _ 31 ?hg (N := 73) ?hd (xs := ([(⟨a1_0, a1_1, a1_2⟩ : S31), (⟨t417, t418, t419⟩ : S31)] : List (S31))) (inner := [.int .i64 a1_0, .int .i64 a1_1, .string a1_2, .int .i64 t417, .int .i64 t418, .string t419]) (ok := fun _ => True) (okp := fun _ => True) ?hr ?hp (fun _ hk => hk) trivial (Below.refl _ _) (Nat.le_refl _) (by simp) ?_; (case hd => rfl); (case hg => rfl); (case hr => first | (go_simp; done) | (go_simp; rfl)); (case hp => exact (Reps.c3 (show Kd.M k31 _ _ _ (⟨a1_0, a1_1, a1_2⟩ : S31) [.int .i64 a1_0, .int .i64 a1_1, .string a1_2] from (k31_mkM _ _ _ (⟨a1_0, a1_1, a1_2⟩ : S31) )) (Reps.c3 (show Kd.M k31 _ _ _ (⟨t417, t418, t419⟩ : S31) [.int .i64 t417, .int .i64 t418, .string t419] from (k31_mkM _ _ _ (⟨t417, t418, t419⟩ : S31) )) (Reps.none _ _)))); intro v423 w109 ho110 hb hg_ hnew_; clear hg_ hnew_; (first | rw [← Ny422.out] at ho110 | (simp only [Int.reduceToNat] at ho110; rw [← Ny422.out] at ho110)); have n0_ := Aside0.mk (Kd.R_lower (Kd.R_newB (Kd.R_newB (Kd.R_newB (Kd.R_newB ho110 (g := gb403) (o := .cells #[.int .i64 a1_0, .int .i64 a1_1, .string a1_2] 31 (0, 0)) (by (with_reducible repeat (first | refine blk_drewN ?_ _ | refine blk_drew ?_ | refine blk_alloc ?_ _)); exact BK403.out)) (g := gb404) (o := .cells #[.int .i64 a2_0, .int .i64 a2_1, .string a2_2] 31 (0, 0)) (by (with_reducible repeat (first | refine blk_drewN ?_ _ | refine blk_drew ?_ | refine blk_alloc ?_ _)); exact BK404.out)) (g := gb416) (o := .cells #[.int .i64 t412, .int .i64 t413, .string t414] 31 (0, 0)) (by (with_reducible repeat (first | refine blk_drewN ?_ _ | refine blk_drew ?_ | refine blk_alloc ?_ _)); exact BK416.out)) (g := gb421) (o := .cells #[.int .i64 t417, .int .i64 t418, .string t419] 31 (0, 0)) (by (with_reducible repeat (first | refine blk_drewN ?_ _ | refine blk_drew ?_ | refine blk_alloc ?_ _)); exact BK421.out)) (below_size (by repeat (first | (with_reducible first | exact HB.out | apply below_alloc | apply pw_below_drewN | apply below_drew1 | refine below_set ?_ GE403.out | refine below_set ?_ GE404.out | refine below_set ?_ GE416.out | refine below_set ?_ GE421.out) | exact HB.out)))); have n1_ := Aside0.mk (blk_below (g := gb403) (o := .cells #[.int .i64 a1_0, .int .i64 a1_1, .string a1_2] 31 (0, 0)) (by (with_reducible repeat (first | refine blk_drewN ?_ _ | refine blk_drew ?_ | refine blk_alloc ?_ _)); exact BK403.out) hb); have n2_ := Aside0.mk (blk_below (g := gb404) (o := .cells #[.int .i64 a2_0, .int .i64 a2_1, .string a2_2] 31 (0, 0)) (by (with_reducible repeat (first | refine blk_drewN ?_ _ | refine blk_drew ?_ | refine blk_alloc ?_ _)); exact BK404.out) hb); have n3_ := Aside0.mk (blk_below (g := gb416) (o := .cells #[.int .i64 t412, .int .i64 t413, .string t414] 31 (0, 0)) (by (with_reducible repeat (first | refine blk_drewN ?_ _ | refine blk_drew ?_ | refine blk_alloc ?_ _)); exact BK416.out) hb); have n4_ := Aside0.mk (blk_below (g := gb421) (o := .cells #[.int .i64 t417, .int .i64 t418, .string t419] 31 (0, 0)) (by (with_reducible repeat (first | refine blk_drewN ?_ _ | refine blk_drew ?_ | refine blk_alloc ?_ _)); exact BK421.out) hb); have n5_ := Aside0.mk (below_step (by repeat (first | (with_reducible first | exact HB.out | apply below_alloc | apply pw_below_drewN | apply below_drew1 | refine below_set ?_ GE403.out | refine below_set ?_ GE404.out | refine below_set ?_ GE416.out | refine below_set ?_ GE421.out) | exact HB.out)) hb); clear BK403; clear BK404; clear BK416; clear BK421; clear HB; have HO424 := n0_; have BK403 := n1_; have BK404 := n2_; have BK416 := n3_; have BK421 := n4_; have HB := n5_; clear n0_ n1_ n2_ n3_ n4_ n5_; clear hb ho110; obtain ⟨Ao111, co111, eo111⟩ := Kd.R_slice HO424.out; subst eo111) | ((with_reducible refine gate_callee (f := 35) rfl ?_); refine goesL_ (some 74) rfl rfl Try.func35 (by kernel_rfl) rfl #[.string a0, .slice Ao111 y422.length co111] rfl (by (try simp only [List.map_toArray, List.map_cons, List.map_nil]); first | done | rfl | (simp only [List.length_drop, List.length_take]; rfl)) ?_; (with_reducible refine (textedit_ApplyAll.calls kj58 a0 _ _ y422 t425 t426 _ ?side1 ?side2 A98.out).mono ?_); (case side1 => repeat (first | exact (Kd.R_reads' HO424.out).2.2 | (with_reducible refine Kd.C_alloc ?_ _) | (with_reducible refine Kd.C_drewN ?_ _) | (with_reducible refine Kd.C_drew ?_))); (case side2 => exact (Kd.R_reads' HO424.out).2.1); rintro e w112 ⟨rfl, hb⟩; refine ⟨_, rfl, ?_⟩; have n0_ := Aside0.mk (Kd.R_below (by (with_reducible repeat (first | apply Kd.R_alloc | apply Kd.R_drewN | apply Kd.R_drew)); exact HO424.out) hb); have n1_ := Aside0.mk (blk_below (g := gb403) (o := .cells #[.int .i64 a1_0, .int .i64 a1_1, .string a1_2] 31 (0, 0)) (by (with_reducible repeat (first | refine blk_drewN ?_ _ | refine blk_drew ?_ | refine blk_alloc ?_ _)); exact BK403.out) hb); have n2_ := Aside0.mk (blk_below (g := gb404) (o := .cells #[.int .i64 a2_0, .int .i64 a2_1, .string a2_2] 31 (0, 0)) (by (with_reducible repeat (first | refine blk_drewN ?_ _ | refine blk_drew ?_ | refine blk_alloc ?_ _)); exact BK404.out) hb); have n3_ := Aside0.mk (blk_below (g := gb416) (o := .cells #[.int .i64 t412, .int .i64 t413, .string t414] 31 (0, 0)) (by (with_reducible repeat (first | refine blk_drewN ?_ _ | refine blk_drew ?_ | refine blk_alloc ?_ _)); exact BK416.out) hb); have n4_ := Aside0.mk (blk_below (g := gb421) (o := .cells #[.int .i64 t417, .int .i64 t418, .string t419] 31 (0, 0)) (by (with_reducible repeat (first | refine blk_drewN ?_ _ | refine blk_drew ?_ | refine blk_alloc ?_ _)); exact BK421.out) hb); have n5_ := Aside0.mk (below_step (by repeat (first | (with_reducible first | exact HB.out | apply below_alloc | apply pw_below_drewN | apply below_drew1 | refine below_set ?_ GE403.out | refine below_set ?_ GE404.out | refine below_set ?_ GE416.out | refine below_set ?_ GE421.out) | exact HB.out)) hb); clear HO424; clear BK403; clear BK404; clear BK416; clear BK421; clear HB; have HO424 := n0_; have BK403 := n1_; have BK404 := n2_; have BK416 := n3_; have BK421 := n4_; have HB := n5_; clear n0_ n1_ n2_ n3_ n4_ n5_; (try clear hb); (try clear hb2); (try clear hk); (try clear hi); have hnb113 := NB404_416.out; have hnc113 := NB416_404.out; have hcz114_0 : w112.cell? ⟨gb404, 0, none⟩ = some (.int .i64 a2_0) := (blk_cell BK404.out 0).trans rfl; have hcz114_1 : w112.cell? ⟨gb404, 1, none⟩ = some (.int .i64 a2_1) := (blk_cell BK404.out 1).trans rfl; have hcz114_2 : w112.cell? ⟨gb404, 2, none⟩ = some (.string a2_2) := (blk_cell BK404.out 2).trans rfl; have hfz114_0 := blk_frozen BK404.out 0; have hfz114_1 := blk_frozen BK404.out 1; have hfz114_2 := blk_frozen BK404.out 2; have hcz115_0 : w112.cell? ⟨gb416, 0, none⟩ = some (.int .i64 t412) := (blk_cell BK416.out 0).trans rfl; have hcz115_1 : w112.cell? ⟨gb416, 1, none⟩ = some (.int .i64 t413) := (blk_cell BK416.out 1).trans rfl; have hcz115_2 : w112.cell? ⟨gb416, 2, none⟩ = some (.string t414) := (blk_cell BK416.out 2).trans rfl; have hfz115_0 := blk_frozen BK416.out 0; have hfz115_1 := blk_frozen BK416.out 1; have hfz115_2 := blk_frozen BK416.out 2) | ((with_reducible refine gate_dst (N := 81) rfl ?_); refine Kd.R_lit k31 _ 31 ?hg (N := 81) ?hd (xs := ([(⟨a2_0, a2_1, a2_2⟩ : S31), (⟨t412, t413, t414⟩ : S31)] : List (S31))) (inner := [.int .i64 a2_0, .int .i64 a2_1, .string a2_2, .int .i64 t412, .int .i64 t413, .string t414]) (ok := fun _ => True) (okp := fun _ => True) ?hr ?hp (fun _ hk => hk) trivial (Below.refl _ _) (Nat.le_refl _) (by simp) ?_; (case hd => rfl); (case hg => rfl); (case hr => first | (go_simp; done) | (go_simp; rfl)); (case hp => exact (Reps.c3 (show Kd.M k31 _ _ _ (⟨a2_0, a2_1, a2_2⟩ : S31) [.int .i64 a2_0, .int .i64 a2_1, .string a2_2] from (k31_mkM _ _ _ (⟨a2_0, a2_1, a2_2⟩ : S31) )) (Reps.c3 (show Kd.M k31 _ _ _ (⟨t412, t413, t414⟩ : S31) [.int .i64 t412, .int .i64 t413, .string t414] from (k31_mkM _ _ _ (⟨t412, t413, t414⟩ : S31) )) (Reps.none _ _)))); intro v428 w116 ho117 hb hg_ hnew_; clear hg_ hnew_; (first | rw [← Ny427.out] at ho117 | (simp only [Int.reduceToNat] at ho117; rw [← Ny427.out] at ho117)); have n0_ := Aside0.mk (Kd.R_elder' (by (with_reducible repeat (first | apply Kd.R_alloc | apply Kd.R_drewN | apply Kd.R_drew)); exact HO424.out) (Kd.R_base ho117) hb); have n1_ := Aside0.mk (Kd.R_lower (Kd.R_newB (Kd.R_newB (Kd.R_newB (Kd.R_newB (Kd.R_new' ho117 (Kd.R_lt (by (with_reducible repeat (first | apply Kd.R_alloc | apply Kd.R_drewN | apply Kd.R_drew)); exact HO424.out))) (g := gb403) (o := .cells #[.int .i64 a1_0, .int .i64 a1_1, .string a1_2] 31 (0, 0)) (by (with_reducible repeat (first | refine blk_drewN ?_ _ | refine blk_drew ?_ | refine blk_alloc ?_ _)); exact BK403.out)) (g := gb404) (o := .cells #[.int .i64 a2_0, .int .i64 a2_1, .string a2_2] 31 (0, 0)) (by (with_reducible repeat (first | refine blk_drewN ?_ _ | refine blk_drew ?_ | refine blk_alloc ?_ _)); exact BK404.out)) (g := gb416) (o := .cells #[.int .i64 t412, .int .i64 t413, .string t414] 31 (0, 0)) (by (with_reducible repeat (first | refine blk_drewN ?_ _ | refine blk_drew ?_ | refine blk_alloc ?_ _)); exact BK416.out)) (g := gb421) (o := .cells #[.int .i64 t417, .int .i64 t418, .string t419] 31 (0, 0)) (by (with_reducible repeat (first | refine blk_drewN ?_ _ | refine blk_drew ?_ | refine blk_alloc ?_ _)); exact BK421.out)) (below_size (by repeat (first | (with_reducible first | exact HB.out | apply below_alloc | apply pw_below_drewN | apply below_drew1 | refine below_set ?_ GE403.out | refine below_set ?_ GE404.out | refine below_set ?_ GE416.out | refine below_set ?_ GE421.out) | exact HB.out)))); have n2_ := Aside0.mk (blk_below (g := gb403) (o := .cells #[.int .i64 a1_0, .int .i64 a1_1, .string a1_2] 31 (0, 0)) (by (with_reducible repeat (first | refine blk_drewN ?_ _ | refine blk_drew ?_ | refine blk_alloc ?_ _)); exact BK403.out) hb); have n3_ := Aside0.mk (blk_below (g := gb404) (o := .cells #[.int .i64 a2_0, .int .i64 a2_1, .string a2_2] 31 (0, 0)) (by (with_reducible repeat (first | refine blk_drewN ?_ _ | refine blk_drew ?_ | refine blk_alloc ?_ _)); exact BK404.out) hb); have n4_ := Aside0.mk (blk_below (g := gb416) (o := .cells #[.int .i64 t412, .int .i64 t413, .string t414] 31 (0, 0)) (by (with_reducible repeat (first | refine blk_drewN ?_ _ | refine blk_drew ?_ | refine blk_alloc ?_ _)); exact BK416.out) hb); have n5_ := Aside0.mk (blk_below (g := gb421) (o := .cells #[.int .i64 t417, .int .i64 t418, .string t419] 31 (0, 0)) (by (with_reducible repeat (first | refine blk_drewN ?_ _ | refine blk_drew ?_ | refine blk_alloc ?_ _)); exact BK421.out) hb); have n6_ := Aside0.mk (below_step (by repeat (first | (with_reducible first | exact HB.out | apply below_alloc | apply pw_below_drewN | apply below_drew1 | refine below_set ?_ GE403.out | refine below_set ?_ GE404.out | refine below_set ?_ GE416.out | refine below_set ?_ GE421.out) | exact HB.out)) hb); clear HO424; clear BK403; clear BK404; clear BK416; clear BK421; clear HB; have HO424 := n0_; have HO429 := n1_; have BK403 := n2_; have BK404 := n3_; have BK416 := n4_; have BK421 := n5_; have HB := n6_; clear n0_ n1_ n2_ n3_ n4_ n5_ n6_; clear hb ho117; obtain ⟨Ao118, co118, eo118⟩ := Kd.R_slice HO429.out; subst eo118) | ((with_reducible refine gate_callee (f := 35) rfl ?_); refine goesL_ (some 82) rfl rfl Try.func35 (by kernel_rfl) rfl #[.string a0, .slice Ao118 y427.length co118] rfl (by (try simp only [List.map_toArray, List.map_cons, List.map_nil]); first | done | rfl | (simp only [List.length_drop, List.length_take]; rfl)) ?_; (with_reducible refine (textedit_ApplyAll.calls kj58 a0 _ _ y427 t430 t431 _ ?side1 ?side2 A99.out).mono ?_); (case side1 => repeat (first | exact (Kd.R_reads' HO429.out).2.2 | (with_reducible refine Kd.C_alloc ?_ _) | (with_reducible refine Kd.C_drewN ?_ _) | (with_reducible refine Kd.C_drew ?_))); (case side2 => exact (Kd.R_reads' HO429.out).2.1); rintro e w119 ⟨rfl, hb⟩; refine ⟨_, rfl, ?_⟩; have n0_ := Aside0.mk (Kd.R_below (by (with_reducible repeat (first | apply Kd.R_alloc | apply Kd.R_drewN | apply Kd.R_drew)); exact HO424.out) hb); have n1_ := Aside0.mk (Kd.R_below (by (with_reducible repeat (first | apply Kd.R_alloc | apply Kd.R_drewN | apply Kd.R_drew)); exact HO429.out) hb); have n2_ := Aside0.mk (blk_below (g := gb403) (o := .cells #[.int .i64 a1_0, .int .i64 a1_1, .string a1_2] 31 (0, 0)) (by (with_reducible repeat (first | refine blk_drewN ?_ _ | refine blk_drew ?_ | refine blk_alloc ?_ _)); exact BK403.out) hb); have n3_ := Aside0.mk (blk_below (g := gb404) (o := .cells #[.int .i64 a2_0, .int .i64 a2_1, .string a2_2] 31 (0, 0)) (by (with_reducible repeat (first | refine blk_drewN ?_ _ | refine blk_drew ?_ | refine blk_alloc ?_ _)); exact BK404.out) hb); have n4_ := Aside0.mk (blk_below (g := gb416) (o := .cells #[.int .i64 t412, .int .i64 t413, .string t414] 31 (0, 0)) (by (with_reducible repeat (first | refine blk_drewN ?_ _ | refine blk_drew ?_ | refine blk_alloc ?_ _)); exact BK416.out) hb); have n5_ := Aside0.mk (blk_below (g := gb421) (o := .cells #[.int .i64 t417, .int .i64 t418, .string t419] 31 (0, 0)) (by (with_reducible repeat (first | refine blk_drewN ?_ _ | refine blk_drew ?_ | refine blk_alloc ?_ _)); exact BK421.out) hb); have n6_ := Aside0.mk (below_step (by repeat (first | (with_reducible first | exact HB.out | apply below_alloc | apply pw_below_drewN | apply below_drew1 | refine below_set ?_ GE403.out | refine below_set ?_ GE404.out | refine below_set ?_ GE416.out | refine below_set ?_ GE421.out) | exact HB.out)) hb); clear HO424; clear HO429; clear BK403; clear BK404; clear BK416; clear BK421; clear HB; have HO424 := n0_; have HO429 := n1_; have BK403 := n2_; have BK404 := n3_; have BK416 := n4_; have BK421 := n5_; have HB := n6_; clear n0_ n1_ n2_ n3_ n4_ n5_ n6_; (try clear hb); (try clear hb2); (try clear hk); (try clear hi)))
                      go_ret
                      exact ⟨by first | rfl | (simp [errW_none, errW_some] <;> rfl) | (simp [*, errW_none, errW_some] <;> rfl), by repeat (first | (with_reducible first | exact HB.out | apply below_alloc | apply pw_below_drewN | apply below_drew1 | refine below_set ?_ GE403.out | refine below_set ?_ GE404.out | refine below_set ?_ GE416.out | refine below_set ?_ GE421.out) | exact HB.out)⟩
                    · rw [if_neg c101] at H
                      have c101b0 : (t431 == 0) = false := beq_eq_false_iff_ne.mpr c101
                      have c101b1 : (t431 != 0) = true := bne_iff_ne.mpr c101
                      obtain rfl := Option.some.inj H
                      have hnb120 := NB403_404.out
                      have hnc120 := NB404_403.out
                      have hnb121 := NB403_416.out
                      have hnc121 := NB416_403.out
                      have hnb122 := NB403_421.out
                      have hnc122 := NB421_403.out
                      have hcz123_0 : wc.cell? ⟨gb403, 0, none⟩ = some (.int .i64 a1_0) := (blk_cell BK403.out 0).trans rfl
                      have hcz123_1 : wc.cell? ⟨gb403, 1, none⟩ = some (.int .i64 a1_1) := (blk_cell BK403.out 1).trans rfl
                      have hcz123_2 : wc.cell? ⟨gb403, 2, none⟩ = some (.string a1_2) := (blk_cell BK403.out 2).trans rfl
                      have hfz123_0 := blk_frozen BK403.out 0
                      have hfz123_1 := blk_frozen BK403.out 1
                      have hfz123_2 := blk_frozen BK403.out 2
                      have hnb124 := NB421_404.out
                      have hnc124 := NB404_421.out
                      have hnb125 := NB421_416.out
                      have hnc125 := NB416_421.out
                      have hcz126_0 : wc.cell? ⟨gb421, 0, none⟩ = some (.int .i64 t417) := (blk_cell BK421.out 0).trans rfl
                      have hcz126_1 : wc.cell? ⟨gb421, 1, none⟩ = some (.int .i64 t418) := (blk_cell BK421.out 1).trans rfl
                      have hcz126_2 : wc.cell? ⟨gb421, 2, none⟩ = some (.string t419) := (blk_cell BK421.out 2).trans rfl
                      have hfz126_0 := blk_frozen BK421.out 0
                      have hfz126_1 := blk_frozen BK421.out 1
                      have hfz126_2 := blk_frozen BK421.out 2
                      go_wp2_with (first | ((with_reducible refine gate_dst (N := 73) rfl ?_); refine Kd.R_lit k31 _ 31 ?hg (N := 73) ?hd (xs := ([(⟨a1_0, a1_1, a1_2⟩ : S31), (⟨t417, t418, t419⟩ : S31)] : List (S31))) (inner := [.int .i64 a1_0, .int .i64 a1_1, .string a1_2, .int .i64 t417, .int .i64 t418, .string t419]) (ok := fun _ => True) (okp := fun _ => True) ?hr ?hp (fun _ hk => hk) trivial (Below.refl _ _) (Nat.le_refl _) (by simp) ?_; (case hd => rfl); (case hg => rfl); (case hr => first | (go_simp; done) | (go_simp; rfl)); (case hp => exact (Reps.c3 (show Kd.M k31 _ _ _ (⟨a1_0, a1_1, a1_2⟩ : S31) [.int .i64 a1_0, .int .i64 a1_1, .string a1_2] from (k31_mkM _ _ _ (⟨a1_0, a1_1, a1_2⟩ : S31) )) (Reps.c3 (show Kd.M k31 _ _ _ (⟨t417, t418, t419⟩ : S31) [.int .i64 t417, .int .i64 t418, .string t419] from (k31_mkM _ _ _ (⟨t417, t418, t419⟩ : S31) )) (Reps.none _ _)))); intro v423 w127 ho128 hb hg_ hnew_; clear hg_ hnew_; (first | rw [← Ny422.out] at ho128 | (simp only [Int.reduceToNat] at ho128; rw [← Ny422.out] at ho128)); have n0_ := Aside0.mk (Kd.R_lower (Kd.R_newB (Kd.R_newB (Kd.R_newB (Kd.R_newB ho128 (g := gb403) (o := .cells #[.int .i64 a1_0, .int .i64 a1_1, .string a1_2] 31 (0, 0)) (by (with_reducible repeat (first | refine blk_drewN ?_ _ | refine blk_drew ?_ | refine blk_alloc ?_ _)); exact BK403.out)) (g := gb404) (o := .cells #[.int .i64 a2_0, .int .i64 a2_1, .string a2_2] 31 (0, 0)) (by (with_reducible repeat (first | refine blk_drewN ?_ _ | refine blk_drew ?_ | refine blk_alloc ?_ _)); exact BK404.out)) (g := gb416) (o := .cells #[.int .i64 t412, .int .i64 t413, .string t414] 31 (0, 0)) (by (with_reducible repeat (first | refine blk_drewN ?_ _ | refine blk_drew ?_ | refine blk_alloc ?_ _)); exact BK416.out)) (g := gb421) (o := .cells #[.int .i64 t417, .int .i64 t418, .string t419] 31 (0, 0)) (by (with_reducible repeat (first | refine blk_drewN ?_ _ | refine blk_drew ?_ | refine blk_alloc ?_ _)); exact BK421.out)) (below_size (by repeat (first | (with_reducible first | exact HB.out | apply below_alloc | apply pw_below_drewN | apply below_drew1 | refine below_set ?_ GE403.out | refine below_set ?_ GE404.out | refine below_set ?_ GE416.out | refine below_set ?_ GE421.out) | exact HB.out)))); have n1_ := Aside0.mk (blk_below (g := gb403) (o := .cells #[.int .i64 a1_0, .int .i64 a1_1, .string a1_2] 31 (0, 0)) (by (with_reducible repeat (first | refine blk_drewN ?_ _ | refine blk_drew ?_ | refine blk_alloc ?_ _)); exact BK403.out) hb); have n2_ := Aside0.mk (blk_below (g := gb404) (o := .cells #[.int .i64 a2_0, .int .i64 a2_1, .string a2_2] 31 (0, 0)) (by (with_reducible repeat (first | refine blk_drewN ?_ _ | refine blk_drew ?_ | refine blk_alloc ?_ _)); exact BK404.out) hb); have n3_ := Aside0.mk (blk_below (g := gb416) (o := .cells #[.int .i64 t412, .int .i64 t413, .string t414] 31 (0, 0)) (by (with_reducible repeat (first | refine blk_drewN ?_ _ | refine blk_drew ?_ | refine blk_alloc ?_ _)); exact BK416.out) hb); have n4_ := Aside0.mk (blk_below (g := gb421) (o := .cells #[.int .i64 t417, .int .i64 t418, .string t419] 31 (0, 0)) (by (with_reducible repeat (first | refine blk_drewN ?_ _ | refine blk_drew ?_ | refine blk_alloc ?_ _)); exact BK421.out) hb); have n5_ := Aside0.mk (below_step (by repeat (first | (with_reducible first | exact HB.out | apply below_alloc | apply pw_below_drewN | apply below_drew1 | refine below_set ?_ GE403.out | refine below_set ?_ GE404.out | refine below_set ?_ GE416.out | refine below_set ?_ GE421.out) | exact HB.out)) hb); clear BK403; clear BK404; clear BK416; clear BK421; clear HB; have HO424 := n0_; have BK403 := n1_; have BK404 := n2_; have BK416 := n3_; have BK421 := n4_; have HB := n5_; clear n0_ n1_ n2_ n3_ n4_ n5_; clear hb ho128; obtain ⟨Ao129, co129, eo129⟩ := Kd.R_slice HO424.out; subst eo129) | ((with_reducible refine gate_callee (f := 35) rfl ?_); refine goesL_ (some 74) rfl rfl Try.func35 (by kernel_rfl) rfl #[.string a0, .slice Ao129 y422.length co129] rfl (by (try simp only [List.map_toArray, List.map_cons, List.map_nil]); first | done | rfl | (simp only [List.length_drop, List.length_take]; rfl)) ?_; (with_reducible refine (textedit_ApplyAll.calls kj58 a0 _ _ y422 t425 t426 _ ?side1 ?side2 A98.out).mono ?_); (case side1 => repeat (first | exact (Kd.R_reads' HO424.out).2.2 | (with_reducible refine Kd.C_alloc ?_ _) | (with_reducible refine Kd.C_drewN ?_ _) | (with_reducible refine Kd.C_drew ?_))); (case side2 => exact (Kd.R_reads' HO424.out).2.1); rintro e w130 ⟨rfl, hb⟩; refine ⟨_, rfl, ?_⟩; have n0_ := Aside0.mk (Kd.R_below (by (with_reducible repeat (first | apply Kd.R_alloc | apply Kd.R_drewN | apply Kd.R_drew)); exact HO424.out) hb); have n1_ := Aside0.mk (blk_below (g := gb403) (o := .cells #[.int .i64 a1_0, .int .i64 a1_1, .string a1_2] 31 (0, 0)) (by (with_reducible repeat (first | refine blk_drewN ?_ _ | refine blk_drew ?_ | refine blk_alloc ?_ _)); exact BK403.out) hb); have n2_ := Aside0.mk (blk_below (g := gb404) (o := .cells #[.int .i64 a2_0, .int .i64 a2_1, .string a2_2] 31 (0, 0)) (by (with_reducible repeat (first | refine blk_drewN ?_ _ | refine blk_drew ?_ | refine blk_alloc ?_ _)); exact BK404.out) hb); have n3_ := Aside0.mk (blk_below (g := gb416) (o := .cells #[.int .i64 t412, .int .i64 t413, .string t414] 31 (0, 0)) (by (with_reducible repeat (first | refine blk_drewN ?_ _ | refine blk_drew ?_ | refine blk_alloc ?_ _)); exact BK416.out) hb); have n4_ := Aside0.mk (blk_below (g := gb421) (o := .cells #[.int .i64 t417, .int .i64 t418, .string t419] 31 (0, 0)) (by (with_reducible repeat (first | refine blk_drewN ?_ _ | refine blk_drew ?_ | refine blk_alloc ?_ _)); exact BK421.out) hb); have n5_ := Aside0.mk (below_step (by repeat (first | (with_reducible first | exact HB.out | apply below_alloc | apply pw_below_drewN | apply below_drew1 | refine below_set ?_ GE403.out | refine below_set ?_ GE404.out | refine below_set ?_ GE416.out | refine below_set ?_ GE421.out) | exact HB.out)) hb); clear HO424; clear BK403; clear BK404; clear BK416; clear BK421; clear HB; have HO424 := n0_; have BK403 := n1_; have BK404 := n2_; have BK416 := n3_; have BK421 := n4_; have HB := n5_; clear n0_ n1_ n2_ n3_ n4_ n5_; (try clear hb); (try clear hb2); (try clear hk); (try clear hi); have hnb131 := NB404_416.out; have hnc131 := NB416_404.out; have hcz132_0 : w130.cell? ⟨gb404, 0, none⟩ = some (.int .i64 a2_0) := (blk_cell BK404.out 0).trans rfl; have hcz132_1 : w130.cell? ⟨gb404, 1, none⟩ = some (.int .i64 a2_1) := (blk_cell BK404.out 1).trans rfl; have hcz132_2 : w130.cell? ⟨gb404, 2, none⟩ = some (.string a2_2) := (blk_cell BK404.out 2).trans rfl; have hfz132_0 := blk_frozen BK404.out 0; have hfz132_1 := blk_frozen BK404.out 1; have hfz132_2 := blk_frozen BK404.out 2; have hcz133_0 : w130.cell? ⟨gb416, 0, none⟩ = some (.int .i64 t412) := (blk_cell BK416.out 0).trans rfl; have hcz133_1 : w130.cell? ⟨gb416, 1, none⟩ = some (.int .i64 t413) := (blk_cell BK416.out 1).trans rfl; have hcz133_2 : w130.cell? ⟨gb416, 2, none⟩ = some (.string t414) := (blk_cell BK416.out 2).trans rfl; have hfz133_0 := blk_frozen BK416.out 0; have hfz133_1 := blk_frozen BK416.out 1; have hfz133_2 := blk_frozen BK416.out 2) | ((with_reducible refine gate_dst (N := 81) rfl ?_); refine Kd.R_lit k31 _ 31 ?hg (N := 81) ?hd (xs := ([(⟨a2_0, a2_1, a2_2⟩ : S31), (⟨t412, t413, t414⟩ : S31)] : List (S31))) (inner := [.int .i64 a2_0, .int .i64 a2_1, .string a2_2, .int .i64 t412, .int .i64 t413, .string t414]) (ok := fun _ => True) (okp := fun _ => True) ?hr ?hp (fun _ hk => hk) trivial (Below.refl _ _) (Nat.le_refl _) (by simp) ?_; (case hd => rfl); (case hg => rfl); (case hr => first | (go_simp; done) | (go_simp; rfl)); (case hp => exact (Reps.c3 (show Kd.M k31 _ _ _ (⟨a2_0, a2_1, a2_2⟩ : S31) [.int .i64 a2_0, .int .i64 a2_1, .string a2_2] from (k31_mkM _ _ _ (⟨a2_0, a2_1, a2_2⟩ : S31) )) (Reps.c3 (show Kd.M k31 _ _ _ (⟨t412, t413, t414⟩ : S31) [.int .i64 t412, .int .i64 t413, .string t414] from (k31_mkM _ _ _ (⟨t412, t413, t414⟩ : S31) )) (Reps.none _ _)))); intro v428 w134 ho135 hb hg_ hnew_; clear hg_ hnew_; (first | rw [← Ny427.out] at ho135 | (simp only [Int.reduceToNat] at ho135; rw [← Ny427.out] at ho135)); have n0_ := Aside0.mk (Kd.R_elder' (by (with_reducible repeat (first | apply Kd.R_alloc | apply Kd.R_drewN | apply Kd.R_drew)); exact HO424.out) (Kd.R_base ho135) hb); have n1_ := Aside0.mk (Kd.R_lower (Kd.R_newB (Kd.R_newB (Kd.R_newB (Kd.R_newB (Kd.R_new' ho135 (Kd.R_lt (by (with_reducible repeat (first | apply Kd.R_alloc | apply Kd.R_drewN | apply Kd.R_drew)); exact HO424.out))) (g := gb403) (o := .cells #[.int .i64 a1_0, .int .i64 a1_1, .string a1_2] 31 (0, 0)) (by (with_reducible repeat (first | refine blk_drewN ?_ _ | refine blk_drew ?_ | refine blk_alloc ?_ _)); exact BK403.out)) (g := gb404) (o := .cells #[.int .i64 a2_0, .int .i64 a2_1, .string a2_2] 31 (0, 0)) (by (with_reducible repeat (first | refine blk_drewN ?_ _ | refine blk_drew ?_ | refine blk_alloc ?_ _)); exact BK404.out)) (g := gb416) (o := .cells #[.int .i64 t412, .int .i64 t413, .string t414] 31 (0, 0)) (by (with_reducible repeat (first | refine blk_drewN ?_ _ | refine blk_drew ?_ | refine blk_alloc ?_ _)); exact BK416.out)) (g := gb421) (o := .cells #[.int .i64 t417, .int .i64 t418, .string t419] 31 (0, 0)) (by (with_reducible repeat (first | refine blk_drewN ?_ _ | refine blk_drew ?_ | refine blk_alloc ?_ _)); exact BK421.out)) (below_size (by repeat (first | (with_reducible first | exact HB.out | apply below_alloc | apply pw_below_drewN | apply below_drew1 | refine below_set ?_ GE403.out | refine below_set ?_ GE404.out | refine below_set ?_ GE416.out | refine below_set ?_ GE421.out) | exact HB.out)))); have n2_ := Aside0.mk (blk_below (g := gb403) (o := .cells #[.int .i64 a1_0, .int .i64 a1_1, .string a1_2] 31 (0, 0)) (by (with_reducible repeat (first | refine blk_drewN ?_ _ | refine blk_drew ?_ | refine blk_alloc ?_ _)); exact BK403.out) hb); have n3_ := Aside0.mk (blk_below (g := gb404) (o := .cells #[.int .i64 a2_0, .int .i64 a2_1, .string a2_2] 31 (0, 0)) (by (with_reducible repeat (first | refine blk_drewN ?_ _ | refine blk_drew ?_ | refine blk_alloc ?_ _)); exact BK404.out) hb); have n4_ := Aside0.mk (blk_below (g := gb416) (o := .cells #[.int .i64 t412, .int .i64 t413, .string t414] 31 (0, 0)) (by (with_reducible repeat (first | refine blk_drewN ?_ _ | refine blk_drew ?_ | refine blk_alloc ?_ _)); exact BK416.out) hb); have n5_ := Aside0.mk (blk_below (g := gb421) (o := .cells #[.int .i64 t417, .int .i64 t418, .string t419] 31 (0, 0)) (by (with_reducible repeat (first | refine blk_drewN ?_ _ | refine blk_drew ?_ | refine blk_alloc ?_ _)); exact BK421.out) hb); have n6_ := Aside0.mk (below_step (by repeat (first | (with_reducible first | exact HB.out | apply below_alloc | apply pw_below_drewN | apply below_drew1 | refine below_set ?_ GE403.out | refine below_set ?_ GE404.out | refine below_set ?_ GE416.out | refine below_set ?_ GE421.out) | exact HB.out)) hb); clear HO424; clear BK403; clear BK404; clear BK416; clear BK421; clear HB; have HO424 := n0_; have HO429 := n1_; have BK403 := n2_; have BK404 := n3_; have BK416 := n4_; have BK421 := n5_; have HB := n6_; clear n0_ n1_ n2_ n3_ n4_ n5_ n6_; clear hb ho135; obtain ⟨Ao136, co136, eo136⟩ := Kd.R_slice HO429.out; subst eo136) | ((with_reducible refine gate_callee (f := 35) rfl ?_); refine goesL_ (some 82) rfl rfl Try.func35 (by kernel_rfl) rfl #[.string a0, .slice Ao136 y427.length co136] rfl (by (try simp only [List.map_toArray, List.map_cons, List.map_nil]); first | done | rfl | (simp only [List.length_drop, List.length_take]; rfl)) ?_; (with_reducible refine (textedit_ApplyAll.calls kj58 a0 _ _ y427 t430 t431 _ ?side1 ?side2 A99.out).mono ?_); (case side1 => repeat (first | exact (Kd.R_reads' HO429.out).2.2 | (with_reducible refine Kd.C_alloc ?_ _) | (with_reducible refine Kd.C_drewN ?_ _) | (with_reducible refine Kd.C_drew ?_))); (case side2 => exact (Kd.R_reads' HO429.out).2.1); rintro e w137 ⟨rfl, hb⟩; refine ⟨_, rfl, ?_⟩; have n0_ := Aside0.mk (Kd.R_below (by (with_reducible repeat (first | apply Kd.R_alloc | apply Kd.R_drewN | apply Kd.R_drew)); exact HO424.out) hb); have n1_ := Aside0.mk (Kd.R_below (by (with_reducible repeat (first | apply Kd.R_alloc | apply Kd.R_drewN | apply Kd.R_drew)); exact HO429.out) hb); have n2_ := Aside0.mk (blk_below (g := gb403) (o := .cells #[.int .i64 a1_0, .int .i64 a1_1, .string a1_2] 31 (0, 0)) (by (with_reducible repeat (first | refine blk_drewN ?_ _ | refine blk_drew ?_ | refine blk_alloc ?_ _)); exact BK403.out) hb); have n3_ := Aside0.mk (blk_below (g := gb404) (o := .cells #[.int .i64 a2_0, .int .i64 a2_1, .string a2_2] 31 (0, 0)) (by (with_reducible repeat (first | refine blk_drewN ?_ _ | refine blk_drew ?_ | refine blk_alloc ?_ _)); exact BK404.out) hb); have n4_ := Aside0.mk (blk_below (g := gb416) (o := .cells #[.int .i64 t412, .int .i64 t413, .string t414] 31 (0, 0)) (by (with_reducible repeat (first | refine blk_drewN ?_ _ | refine blk_drew ?_ | refine blk_alloc ?_ _)); exact BK416.out) hb); have n5_ := Aside0.mk (blk_below (g := gb421) (o := .cells #[.int .i64 t417, .int .i64 t418, .string t419] 31 (0, 0)) (by (with_reducible repeat (first | refine blk_drewN ?_ _ | refine blk_drew ?_ | refine blk_alloc ?_ _)); exact BK421.out) hb); have n6_ := Aside0.mk (below_step (by repeat (first | (with_reducible first | exact HB.out | apply below_alloc | apply pw_below_drewN | apply below_drew1 | refine below_set ?_ GE403.out | refine below_set ?_ GE404.out | refine below_set ?_ GE416.out | refine below_set ?_ GE421.out) | exact HB.out)) hb); clear HO424; clear HO429; clear BK403; clear BK404; clear BK416; clear BK421; clear HB; have HO424 := n0_; have HO429 := n1_; have BK403 := n2_; have BK404 := n3_; have BK416 := n4_; have BK421 := n5_; have HB := n6_; clear n0_ n1_ n2_ n3_ n4_ n5_ n6_; (try clear hb); (try clear hb2); (try clear hk); (try clear hi)))
                      go_ret
                      exact ⟨by first | rfl | (simp [errW_none, errW_some] <;> rfl) | (simp [*, errW_none, errW_some] <;> rfl), by repeat (first | (with_reducible first | exact HB.out | apply below_alloc | apply pw_below_drewN | apply below_drew1 | refine below_set ?_ GE403.out | refine below_set ?_ GE404.out | refine below_set ?_ GE416.out | refine below_set ?_ GE421.out) | exact HB.out)⟩
                  · rw [if_neg c100] at H
                    have c100b0 : (t426 == 0) = false := beq_eq_false_iff_ne.mpr c100
                    have c100b1 : (t426 != 0) = true := bne_iff_ne.mpr c100
                    obtain rfl := Option.some.inj H
                    have hnb138 := NB403_404.out
                    have hnc138 := NB404_403.out
                    have hnb139 := NB403_416.out
                    have hnc139 := NB416_403.out
                    have hnb140 := NB403_421.out
                    have hnc140 := NB421_403.out
                    have hcz141_0 : wc.cell? ⟨gb403, 0, none⟩ = some (.int .i64 a1_0) := (blk_cell BK403.out 0).trans rfl
                    have hcz141_1 : wc.cell? ⟨gb403, 1, none⟩ = some (.int .i64 a1_1) := (blk_cell BK403.out 1).trans rfl
                    have hcz141_2 : wc.cell? ⟨gb403, 2, none⟩ = some (.string a1_2) := (blk_cell BK403.out 2).trans rfl
                    have hfz141_0 := blk_frozen BK403.out 0
                    have hfz141_1 := blk_frozen BK403.out 1
                    have hfz141_2 := blk_frozen BK403.out 2
                    have hnb142 := NB421_404.out
                    have hnc142 := NB404_421.out
                    have hnb143 := NB421_416.out
                    have hnc143 := NB416_421.out
                    have hcz144_0 : wc.cell? ⟨gb421, 0, none⟩ = some (.int .i64 t417) := (blk_cell BK421.out 0).trans rfl
                    have hcz144_1 : wc.cell? ⟨gb421, 1, none⟩ = some (.int .i64 t418) := (blk_cell BK421.out 1).trans rfl
                    have hcz144_2 : wc.cell? ⟨gb421, 2, none⟩ = some (.string t419) := (blk_cell BK421.out 2).trans rfl
                    have hfz144_0 := blk_frozen BK421.out 0
                    have hfz144_1 := blk_frozen BK421.out 1
                    have hfz144_2 := blk_frozen BK421.out 2
                    go_wp2_with (first | ((with_reducible refine gate_dst (N := 73) rfl ?_); refine Kd.R_lit k31 _ 31 ?hg (N := 73) ?hd (xs := ([(⟨a1_0, a1_1, a1_2⟩ : S31), (⟨t417, t418, t419⟩ : S31)] : List (S31))) (inner := [.int .i64 a1_0, .int .i64 a1_1, .string a1_2, .int .i64 t417, .int .i64 t418, .string t419]) (ok := fun _ => True) (okp := fun _ => True) ?hr ?hp (fun _ hk => hk) trivial (Below.refl _ _) (Nat.le_refl _) (by simp) ?_; (case hd => rfl); (case hg => rfl); (case hr => first | (go_simp; done) | (go_simp; rfl)); (case hp => exact (Reps.c3 (show Kd.M k31 _ _ _ (⟨a1_0, a1_1, a1_2⟩ : S31) [.int .i64 a1_0, .int .i64 a1_1, .string a1_2] from (k31_mkM _ _ _ (⟨a1_0, a1_1, a1_2⟩ : S31) )) (Reps.c3 (show Kd.M k31 _ _ _ (⟨t417, t418, t419⟩ : S31) [.int .i64 t417, .int .i64 t418, .string t419] from (k31_mkM _ _ _ (⟨t417, t418, t419⟩ : S31) )) (Reps.none _ _)))); intro v423 w145 ho146 hb hg_ hnew_; clear hg_ hnew_; (first | rw [← Ny422.out] at ho146 | (simp only [Int.reduceToNat] at ho146; rw [← Ny422.out] at ho146)); have n0_ := Aside0.mk (Kd.R_lower (Kd.R_newB (Kd.R_newB (Kd.R_newB (Kd.R_newB ho146 (g := gb403) (o := .cells #[.int .i64 a1_0, .int .i64 a1_1, .string a1_2] 31 (0, 0)) (by (with_reducible repeat (first | refine blk_drewN ?_ _ | refine blk_drew ?_ | refine blk_alloc ?_ _)); exact BK403.out)) (g := gb404) (o := .cells #[.int .i64 a2_0, .int .i64 a2_1, .string a2_2] 31 (0, 0)) (by (with_reducible repeat (first | refine blk_drewN ?_ _ | refine blk_drew ?_ | refine blk_alloc ?_ _)); exact BK404.out)) (g := gb416) (o := .cells #[.int .i64 t412, .int .i64 t413, .string t414] 31 (0, 0)) (by (with_reducible repeat (first | refine blk_drewN ?_ _ | refine blk_drew ?_ | refine blk_alloc ?_ _)); exact BK416.out)) (g := gb421) (o := .cells #[.int .i64 t417, .int .i64 t418, .string t419] 31 (0, 0)) (by (with_reducible repeat (first | refine blk_drewN ?_ _ | refine blk_drew ?_ | refine blk_alloc ?_ _)); exact BK421.out)) (below_size (by repeat (first | (with_reducible first | exact HB.out | apply below_alloc | apply pw_below_drewN | apply below_drew1 | refine below_set ?_ GE403.out | refine below_set ?_ GE404.out | refine below_set ?_ GE416.out | refine below_set ?_ GE421.out) | exact HB.out)))); have n1_ := Aside0.mk (blk_below (g := gb403) (o := .cells #[.int .i64 a1_0, .int .i64 a1_1, .string a1_2] 31 (0, 0)) (by (with_reducible repeat (first | refine blk_drewN ?_ _ | refine blk_drew ?_ | refine blk_alloc ?_ _)); exact BK403.out) hb); have n2_ := Aside0.mk (blk_below (g := gb404) (o := .cells #[.int .i64 a2_0, .int .i64 a2_1, .string a2_2] 31 (0, 0)) (by (with_reducible repeat (first | refine blk_drewN ?_ _ | refine blk_drew ?_ | refine blk_alloc ?_ _)); exact BK404.out) hb); have n3_ := Aside0.mk (blk_below (g := gb416) (o := .cells #[.int .i64 t412, .int .i64 t413, .string t414] 31 (0, 0)) (by (with_reducible repeat (first | refine blk_drewN ?_ _ | refine blk_drew ?_ | refine blk_alloc ?_ _)); exact BK416.out) hb); have n4_ := Aside0.mk (blk_below (g := gb421) (o := .cells #[.int .i64 t417, .int .i64 t418, .string t419] 31 (0, 0)) (by (with_reducible repeat (first | refine blk_drewN ?_ _ | refine blk_drew ?_ | refine blk_alloc ?_ _)); exact BK421.out) hb); have n5_ := Aside0.mk (below_step (by repeat (first | (with_reducible first | exact HB.out | apply below_alloc | apply pw_below_drewN | apply below_drew1 | refine below_set ?_ GE403.out | refine below_set ?_ GE404.out | refine below_set ?_ GE416.out | refine below_set ?_ GE421.out) | exact HB.out)) hb); clear BK403; clear BK404; clear BK416; clear BK421; clear HB; have HO424 := n0_; have BK403 := n1_; have BK404 := n2_; have BK416 := n3_; have BK421 := n4_; have HB := n5_; clear n0_ n1_ n2_ n3_ n4_ n5_; clear hb ho146; obtain ⟨Ao147, co147, eo147⟩ := Kd.R_slice HO424.out; subst eo147) | ((with_reducible refine gate_callee (f := 35) rfl ?_); refine goesL_ (some 74) rfl rfl Try.func35 (by kernel_rfl) rfl #[.string a0, .slice Ao147 y422.length co147] rfl (by (try simp only [List.map_toArray, List.map_cons, List.map_nil]); first | done | rfl | (simp only [List.length_drop, List.length_take]; rfl)) ?_; (with_reducible refine (textedit_ApplyAll.calls kj58 a0 _ _ y422 t425 t426 _ ?side1 ?side2 A98.out).mono ?_); (case side1 => repeat (first | exact (Kd.R_reads' HO424.out).2.2 | (with_reducible refine Kd.C_alloc ?_ _) | (with_reducible refine Kd.C_drewN ?_ _) | (with_reducible refine Kd.C_drew ?_))); (case side2 => exact (Kd.R_reads' HO424.out).2.1); rintro e w148 ⟨rfl, hb⟩; refine ⟨_, rfl, ?_⟩; have n0_ := Aside0.mk (Kd.R_below (by (with_reducible repeat (first | apply Kd.R_alloc | apply Kd.R_drewN | apply Kd.R_drew)); exact HO424.out) hb); have n1_ := Aside0.mk (blk_below (g := gb403) (o := .cells #[.int .i64 a1_0, .int .i64 a1_1, .string a1_2] 31 (0, 0)) (by (with_reducible repeat (first | refine blk_drewN ?_ _ | refine blk_drew ?_ | refine blk_alloc ?_ _)); exact BK403.out) hb); have n2_ := Aside0.mk (blk_below (g := gb404) (o := .cells #[.int .i64 a2_0, .int .i64 a2_1, .string a2_2] 31 (0, 0)) (by (with_reducible repeat (first | refine blk_drewN ?_ _ | refine blk_drew ?_ | refine blk_alloc ?_ _)); exact BK404.out) hb); have n3_ := Aside0.mk (blk_below (g := gb416) (o := .cells #[.int .i64 t412, .int .i64 t413, .string t414] 31 (0, 0)) (by (with_reducible repeat (first | refine blk_drewN ?_ _ | refine blk_drew ?_ | refine blk_alloc ?_ _)); exact BK416.out) hb); have n4_ := Aside0.mk (blk_below (g := gb421) (o := .cells #[.int .i64 t417, .int .i64 t418, .string t419] 31 (0, 0)) (by (with_reducible repeat (first | refine blk_drewN ?_ _ | refine blk_drew ?_ | refine blk_alloc ?_ _)); exact BK421.out) hb); have n5_ := Aside0.mk (below_step (by repeat (first | (with_reducible first | exact HB.out | apply below_alloc | apply pw_below_drewN | apply below_drew1 | refine below_set ?_ GE403.out | refine below_set ?_ GE404.out | refine below_set ?_ GE416.out | refine below_set ?_ GE421.out) | exact HB.out)) hb); clear HO424; clear BK403; clear BK404; clear BK416; clear BK421; clear HB; have HO424 := n0_; have BK403 := n1_; have BK404 := n2_; have BK416 := n3_; have BK421 := n4_; have HB := n5_; clear n0_ n1_ n2_ n3_ n4_ n5_; (try clear hb); (try clear hb2); (try clear hk); (try clear hi); have hnb149 := NB404_416.out; have hnc149 := NB416_404.out; have hcz150_0 : w148.cell? ⟨gb404, 0, none⟩ = some (.int .i64 a2_0) := (blk_cell BK404.out 0).trans rfl; have hcz150_1 : w148.cell? ⟨gb404, 1, none⟩ = some (.int .i64 a2_1) := (blk_cell BK404.out 1).trans rfl; have hcz150_2 : w148.cell? ⟨gb404, 2, none⟩ = some (.string a2_2) := (blk_cell BK404.out 2).trans rfl; have hfz150_0 := blk_frozen BK404.out 0; have hfz150_1 := blk_frozen BK404.out 1; have hfz150_2 := blk_frozen BK404.out 2; have hcz151_0 : w148.cell? ⟨gb416, 0, none⟩ = some (.int .i64 t412) := (blk_cell BK416.out 0).trans rfl; have hcz151_1 : w148.cell? ⟨gb416, 1, none⟩ = some (.int .i64 t413) := (blk_cell BK416.out 1).trans rfl; have hcz151_2 : w148.cell? ⟨gb416, 2, none⟩ = some (.string t414) := (blk_cell BK416.out 2).trans rfl; have hfz151_0 := blk_frozen BK416.out 0; have hfz151_1 := blk_frozen BK416.out 1; have hfz151_2 := blk_frozen BK416.out 2) | ((with_reducible refine gate_dst (N := 81) rfl ?_); refine Kd.R_lit k31 _ 31 ?hg (N := 81) ?hd (xs := ([(⟨a2_0, a2_1, a2_2⟩ : S31), (⟨t412, t413, t414⟩ : S31)] : List (S31))) (inner := [.int .i64 a2_0, .int .i64 a2_1, .string a2_2, .int .i64 t412, .int .i64 t413, .string t414]) (ok := fun _ => True) (okp := fun _ => True) ?hr ?hp (fun _ hk => hk) trivial (Below.refl _ _) (Nat.le_refl _) (by simp) ?_; (case hd => rfl); (case hg => rfl); (case hr => first | (go_simp; done) | (go_simp; rfl)); (case hp => exact (Reps.c3 (show Kd.M k31 _ _ _ (⟨a2_0, a2_1, a2_2⟩ : S31) [.int .i64 a2_0, .int .i64 a2_1, .string a2_2] from (k31_mkM _ _ _ (⟨a2_0, a2_1, a2_2⟩ : S31) )) (Reps.c3 (show Kd.M k31 _ _ _ (⟨t412, t413, t414⟩ : S31) [.int .i64 t412, .int .i64 t413, .string t414] from (k31_mkM _ _ _ (⟨t412, t413, t414⟩ : S31) )) (Reps.none _ _)))); intro v428 w152 ho153 hb hg_ hnew_; clear hg_ hnew_; (first | rw [← Ny427.out] at ho153 | (simp only [Int.reduceToNat] at ho153; rw [← Ny427.out] at ho153)); have n0_ := Aside0.mk (Kd.R_elder' (by (with_reducible repeat (first | apply Kd.R_alloc | apply Kd.R_drewN | apply Kd.R_drew)); exact HO424.out) (Kd.R_base ho153) hb); have n1_ := Aside0.mk (Kd.R_lower (Kd.R_newB (Kd.R_newB (Kd.R_newB (Kd.R_newB (Kd.R_new' ho153 (Kd.R_lt (by (with_reducible repeat (first | apply Kd.R_alloc | apply Kd.R_drewN | apply Kd.R_drew)); exact HO424.out))) (g := gb403) (o := .cells #[.int .i64 a1_0, .int .i64 a1_1, .string a1_2] 31 (0, 0)) (by (with_reducible repeat (first | refine blk_drewN ?_ _ | refine blk_drew ?_ | refine blk_alloc ?_ _)); exact BK403.out)) (g := gb404) (o := .cells #[.int .i64 a2_0, .int .i64 a2_1, .string a2_2] 31 (0, 0)) (by (with_reducible repeat (first | refine blk_drewN ?_ _ | refine blk_drew ?_ | refine blk_alloc ?_ _)); exact BK404.out)) (g := gb416) (o := .cells #[.int .i64 t412, .int .i64 t413, .string t414] 31 (0, 0)) (by (with_reducible repeat (first | refine blk_drewN ?_ _ | refine blk_drew ?_ | refine blk_alloc ?_ _)); exact BK416.out)) (g := gb421) (o := .cells #[.int .i64 t417, .int .i64 t418, .string t419] 31 (0, 0)) (by (with_reducible repeat (first | refine blk_drewN ?_ _ | refine blk_drew ?_ | refine blk_alloc ?_ _)); exact BK421.out)) (below_size (by repeat (first | (with_reducible first | exact HB.out | apply below_alloc | apply pw_below_drewN | apply below_drew1 | refine below_set ?_ GE403.out | refine below_set ?_ GE404.out | refine below_set ?_ GE416.out | refine below_set ?_ GE421.out) | exact HB.out)))); have n2_ := Aside0.mk (blk_below (g := gb403) (o := .cells #[.int .i64 a1_0, .int .i64 a1_1, .string a1_2] 31 (0, 0)) (by (with_reducible repeat (first | refine blk_drewN ?_ _ | refine blk_drew ?_ | refine blk_alloc ?_ _)); exact BK403.out) hb); have n3_ := Aside0.mk (blk_below (g := gb404) (o := .cells #[.int .i64 a2_0, .int .i64 a2_1, .string a2_2] 31 (0, 0)) (by (with_reducible repeat (first | refine blk_drewN ?_ _ | refine blk_drew ?_ | refine blk_alloc ?_ _)); exact BK404.out) hb); have n4_ := Aside0.mk (blk_below (g := gb416) (o := .cells #[.int .i64 t412, .int .i64 t413, .string t414] 31 (0, 0)) (by (with_reducible repeat (first | refine blk_drewN ?_ _ | refine blk_drew ?_ | refine blk_alloc ?_ _)); exact BK416.out) hb); have n5_ := Aside0.mk (blk_below (g := gb421) (o := .cells #[.int .i64 t417, .int .i64 t418, .string t419] 31 (0, 0)) (by (with_reducible repeat (first | refine blk_drewN ?_ _ | refine blk_drew ?_ | refine blk_alloc ?_ _)); exact BK421.out) hb); have n6_ := Aside0.mk (below_step (by repeat (first | (with_reducible first | exact HB.out | apply below_alloc | apply pw_below_drewN | apply below_drew1 | refine below_set ?_ GE403.out | refine below_set ?_ GE404.out | refine below_set ?_ GE416.out | refine below_set ?_ GE421.out) | exact HB.out)) hb); clear HO424; clear BK403; clear BK404; clear BK416; clear BK421; clear HB; have HO424 := n0_; have HO429 := n1_; have BK403 := n2_; have BK404 := n3_; have BK416 := n4_; have BK421 := n5_; have HB := n6_; clear n0_ n1_ n2_ n3_ n4_ n5_ n6_; clear hb ho153; obtain ⟨Ao154, co154, eo154⟩ := Kd.R_slice HO429.out; subst eo154) | ((with_reducible refine gate_callee (f := 35) rfl ?_); refine goesL_ (some 82) rfl rfl Try.func35 (by kernel_rfl) rfl #[.string a0, .slice Ao154 y427.length co154] rfl (by (try simp only [List.map_toArray, List.map_cons, List.map_nil]); first | done | rfl | (simp only [List.length_drop, List.length_take]; rfl)) ?_; (with_reducible refine (textedit_ApplyAll.calls kj58 a0 _ _ y427 t430 t431 _ ?side1 ?side2 A99.out).mono ?_); (case side1 => repeat (first | exact (Kd.R_reads' HO429.out).2.2 | (with_reducible refine Kd.C_alloc ?_ _) | (with_reducible refine Kd.C_drewN ?_ _) | (with_reducible refine Kd.C_drew ?_))); (case side2 => exact (Kd.R_reads' HO429.out).2.1); rintro e w155 ⟨rfl, hb⟩; refine ⟨_, rfl, ?_⟩; have n0_ := Aside0.mk (Kd.R_below (by (with_reducible repeat (first | apply Kd.R_alloc | apply Kd.R_drewN | apply Kd.R_drew)); exact HO424.out) hb); have n1_ := Aside0.mk (Kd.R_below (by (with_reducible repeat (first | apply Kd.R_alloc | apply Kd.R_drewN | apply Kd.R_drew)); exact HO429.out) hb); have n2_ := Aside0.mk (blk_below (g := gb403) (o := .cells #[.int .i64 a1_0, .int .i64 a1_1, .string a1_2] 31 (0, 0)) (by (with_reducible repeat (first | refine blk_drewN ?_ _ | refine blk_drew ?_ | refine blk_alloc ?_ _)); exact BK403.out) hb); have n3_ := Aside0.mk (blk_below (g := gb404) (o := .cells #[.int .i64 a2_0, .int .i64 a2_1, .string a2_2] 31 (0, 0)) (by (with_reducible repeat (first | refine blk_drewN ?_ _ | refine blk_drew ?_ | refine blk_alloc ?_ _)); exact BK404.out) hb); have n4_ := Aside0.mk (blk_below (g := gb416) (o := .cells #[.int .i64 t412, .int .i64 t413, .string t414] 31 (0, 0)) (by (with_reducible repeat (first | refine blk_drewN ?_ _ | refine blk_drew ?_ | refine blk_alloc ?_ _)); exact BK416.out) hb); have n5_ := Aside0.mk (blk_below (g := gb421) (o := .cells #[.int .i64 t417, .int .i64 t418, .string t419] 31 (0, 0)) (by (with_reducible repeat (first | refine blk_drewN ?_ _ | refine blk_drew ?_ | refine blk_alloc ?_ _)); exact BK421.out) hb); have n6_ := Aside0.mk (below_step (by repeat (first | (with_reducible first | exact HB.out | apply below_alloc | apply pw_below_drewN | apply below_drew1 | refine below_set ?_ GE403.out | refine below_set ?_ GE404.out | refine below_set ?_ GE416.out | refine below_set ?_ GE421.out) | exact HB.out)) hb); clear HO424; clear HO429; clear BK403; clear BK404; clear BK416; clear BK421; clear HB; have HO424 := n0_; have HO429 := n1_; have BK403 := n2_; have BK404 := n3_; have BK416 := n4_; have BK421 := n5_; have HB := n6_; clear n0_ n1_ n2_ n3_ n4_ n5_ n6_; (try clear hb); (try clear hb2); (try clear hk); (try clear hi)))
                    go_ret
                    exact ⟨by first | rfl | (simp [errW_none, errW_some] <;> rfl) | (simp [*, errW_none, errW_some] <;> rfl), by repeat (first | (with_reducible first | exact HB.out | apply below_alloc | apply pw_below_drewN | apply below_drew1 | refine below_set ?_ GE403.out | refine below_set ?_ GE404.out | refine below_set ?_ GE416.out | refine below_set ?_ GE421.out) | exact HB.out)⟩
  · replace c5 := Bool.eq_false_iff.mpr c5
    subst c5
    have H1 : (some false) = some r := by rw [if_neg (show ¬ (false = true) by decide)] at H; exact H
    clear H
    have H := H1
    clear H1
    obtain rfl := Option.some.inj H
    go_enter Try.func17, Try.ntmps17
    go_wp2_with (first | ((with_reducible refine gate_dst (N := 4) rfl ?_); refine box_event ?hg (N := 4) ?hd (cs := #[.int .i64 a1_0, .int .i64 a1_1, .string a1_2]) (t := 31) ?hr ?_; (case hd => rfl); (case hg => rfl); (case hr => first | (go_simp; done) | (go_simp; rfl)); intro gb403 hg w156 hbox hb; have n0_ := Aside0.mk (below_step (by repeat (first | (with_reducible first | exact HB.out | apply below_alloc | apply pw_below_drewN | apply below_drew1) | exact HB.out)) hb); have n1_ := Aside0.mk (hbox); have n2_ := Aside0.mk ((by rw [hg]; exact (below_size (by repeat (first | (with_reducible first | exact HB.out | apply below_alloc | apply pw_below_drewN | apply below_drew1) | exact HB.out))) : w.heap.size ≤ gb403)); have n3_ := Aside0.mk ((by rw [hg]; exact (below_size (by repeat (first | (with_reducible first | exact HB.out | apply below_alloc | apply pw_below_drewN | apply below_drew1) | exact HB.out))) : w.heap.size ≤ gb403)); clear HB; have HB := n0_; have BK403 := n1_; have GW403 := n2_; have GE403 := n3_; clear n0_ n1_ n2_ n3_; clear hb hbox hg) | ((with_reducible refine gate_dst (N := 5) rfl ?_); refine box_event ?hg (N := 5) ?hd (cs := #[.int .i64 a2_0, .int .i64 a2_1, .string a2_2]) (t := 31) ?hr ?_; (case hd => rfl); (case hg => rfl); (case hr => first | (go_simp; done) | (go_simp; rfl)); intro gb404 hg w157 hbox hb; have n0_ := Aside0.mk (blk_below (g := gb403) (o := .cells #[.int .i64 a1_0, .int .i64 a1_1, .string a1_2] 31 (0, 0)) (by (with_reducible repeat (first | refine blk_drewN ?_ _ | refine blk_drew ?_ | refine blk_alloc ?_ _)); exact BK403.out) hb); have n1_ := Aside0.mk (below_step (by repeat (first | (with_reducible first | exact HB.out | apply below_alloc | apply pw_below_drewN | apply below_drew1 | refine below_set ?_ GE403.out) | exact HB.out)) hb); have n2_ := Aside0.mk (hbox); have n3_ := Aside0.mk ((by rw [hg]; exact (below_size (by repeat (first | (with_reducible first | exact HB.out | apply below_alloc | apply pw_below_drewN | apply below_drew1 | refine below_set ?_ GE403.out) | exact HB.out))) : w.heap.size ≤ gb404)); have n4_ := Aside0.mk ((by rw [hg]; exact (below_size (by repeat (first | (with_reducible first | exact HB.out | apply below_alloc | apply pw_below_drewN | apply below_drew1 | refine below_set ?_ GE403.out) | exact HB.out))) : w.heap.size ≤ gb404)); have n5_ := Aside0.mk ((by rw [hg]; exact Nat.ne_of_lt (blk_lt (g := gb403) (o := .cells #[.int .i64 a1_0, .int .i64 a1_1, .string a1_2] 31 (0, 0)) (by (with_reducible repeat (first | refine blk_drewN ?_ _ | refine blk_drew ?_ | refine blk_alloc ?_ _)); exact BK403.out)) : gb403 ≠ gb404)); have n6_ := Aside0.mk ((by rw [hg]; exact Nat.ne_of_gt (blk_lt (g := gb403) (o := .cells #[.int .i64 a1_0, .int .i64 a1_1, .string a1_2] 31 (0, 0)) (by (with_reducible repeat (first | refine blk_drewN ?_ _ | refine blk_drew ?_ | refine blk_alloc ?_ _)); exact BK403.out)) : gb404 ≠ gb403)); clear BK403; clear HB; have BK403 := n0_; have HB := n1_; have BK404 := n2_; have GW404 := n3_; have GE404 := n4_; have NB403_404 := n5_; have NB404_403 := n6_; clear n0_ n1_ n2_ n3_ n4_ n5_ n6_; clear hb hbox hg) | ((with_reducible refine gate_callee (f := 31) rfl ?_); refine goesL_ (some 15) rfl rfl Try.func31 (by kernel_rfl) rfl #[] rfl (by (try simp only [List.map_toArray, List.map_cons, List.map_nil]); first | done | rfl | (simp only [List.length_drop, List.length_take]; rfl)) ?_; (with_reducible refine (emendatelaw03_awake.calls k  false _ A4.out).mono ?_); rintro e w158 ⟨rfl, hb⟩; refine ⟨_, rfl, ?_⟩; have n0_ := Aside0.mk (blk_below (g := gb403) (o := .cells #[.int .i64 a1_0, .int .i64 a1_1, .string a1_2] 31 (0, 0)) (by (with_reducible repeat (first | refine blk_drewN ?_ _ | refine blk_drew ?_ | refine blk_alloc ?_ _)); exact BK403.out) hb); have n1_ := Aside0.mk (blk_below (g := gb404) (o := .cells #[.int .i64 a2_0, .int .i64 a2_1, .string a2_2] 31 (0, 0)) (by (with_reducible repeat (first | refine blk_drewN ?_ _ | refine blk_drew ?_ | refine blk_alloc ?_ _)); exact BK404.out) hb); have n2_ := Aside0.mk (below_step (by repeat (first | (with_reducible first | exact HB.out | apply below_alloc | apply pw_below_drewN | apply below_drew1 | refine below_set ?_ GE403.out | refine below_set ?_ GE404.out) | exact HB.out)) hb); clear BK403; clear BK404; clear HB; have BK403 := n0_; have BK404 := n1_; have HB := n2_; clear n0_ n1_ n2_; (try clear hb); (try clear hb2); (try clear hk); (try clear hi)))
    go_ret
    exact ⟨by first | rfl | (simp [errW_none, errW_some] <;> rfl) | (simp [*, errW_none, errW_some] <;> rfl), by repeat (first | (with_reducible first | exact HB.out | apply below_alloc | apply pw_below_drewN | apply below_drew1 | refine below_set ?_ GE403.out | refine below_set ?_ GE404.out) | exact HB.out)⟩

end Go.Proofs.Ytnmgcghbfnpofaa.PAll
