/- UndoAll, walked: after the calls all is undone, and redone. -/
import Derived.Test.YtnmgcghbfnpofaaV5
namespace Go.Proofs.Ytnmgcghbfnpofaa.Hist
open Go.RowKit Go.Proofs.Ytnmgcghbfnpofaa.PAll Go.Proofs.YtnmgcghbfnpofaaW.PrintWords Go.Proofs.Ytnmgcghbfnpofaa.Open Go.Proofs.Ytnmgcghbfnpofaa.Plain
set_option linter.unusedVariables false

/-- x edits have been undone; redoing them leads back to the text t; k are left. -/
structure Back (s t : ByteArray) (w wr : World) (g : Nat) (F : Nat → Prop) (m : M) (x k : Nat) : Prop where
  st : St w wr g F m
  gd : Good s m
  sm : Small (100 + x) m
  ln : m.un.length = k
  bk : apAll m.t (m.re.take x) = some t
  lr : x ≤ m.re.length
theorem Back.next {s t : ByteArray} {w wr : World} {g : Nat} {F : Nat → Prop} {m : M} {x k : Nat} (h : Back s t w wr g F m x (k + 1)) :
    ∃ m' a, undoM m = (m', a, 0) ∧ ∀ (w' : World) (F' : Nat → Prop), St w w' g F' m' → Back s t w w' g F' m' (x + 1) k := by
  obtain ⟨st, gd, sm, ln, bk, lr⟩ := h
  obtain ⟨y, ys, e⟩ : ∃ y ys, m.un = y :: ys := by
    cases hu : m.un with
    | nil => rw [hu] at ln; simp at ln
    | cons y ys => exact ⟨y, ys, rfl⟩
  have hf := good_un gd e
  have hu : undoM m = (⟨ap m.t y, m.v + 1, ys, inv m.t y :: m.re⟩, y, 0) := by unfold undoM; rw [e]
  have g1 := good_undo gd
  have n1 := small_undo sm gd
  rw [hu] at g1 n1
  refine ⟨_, _, hu, fun w' F' hs => ⟨hs, g1, n1, ?_, ?_, ?_⟩⟩
  · rw [e] at ln; simpa using ln
  · simp only [List.take_succ_cons]
    rw [good_push hf]
    exact bk
  · simp only [List.length_cons]; omega
/-- k edits are to be redone. -/
structure Fore (s t : ByteArray) (w wr : World) (g : Nat) (F : Nat → Prop) (m : M) (x k : Nat) : Prop where
  st : St w wr g F m
  gd : Good s m
  sm : Small (300 + x) m
  ln : k ≤ m.re.length
  bk : apAll m.t (m.re.take k) = some t
theorem Fore.next {s t : ByteArray} {w wr : World} {g : Nat} {F : Nat → Prop} {m : M} {x k : Nat} (h : Fore s t w wr g F m x (k + 1)) :
    ∃ m' a, redoM m = (m', a, 0) ∧ ∀ (w' : World) (F' : Nat → Prop), St w w' g F' m' → Fore s t w w' g F' m' (x + 1) k := by
  obtain ⟨st, gd, sm, ln, bk⟩ := h
  obtain ⟨y, ys, e⟩ : ∃ y ys, m.re = y :: ys := by
    cases hu : m.re with
    | nil => rw [hu] at ln; simp at ln
    | cons y ys => exact ⟨y, ys, rfl⟩
  have hf := good_re gd e
  have hu : redoM m = (⟨ap m.t y, m.v + 1, inv m.t y :: m.un, ys⟩, y, 0) := by unfold redoM; rw [e]
  have g1 := good_redo gd
  have n1 := small_redo sm gd
  rw [hu] at g1 n1
  refine ⟨_, _, hu, fun w' F' hs => ⟨hs, g1, n1, ?_, ?_⟩⟩
  · rw [e] at ln; simpa using ln
  · rw [e] at bk
    simp only [List.take_succ_cons, apAll, if_pos hf] at bk
    exact bk
theorem Back.done {s t : ByteArray} {w wr : World} {g : Nat} {F : Nat → Prop} {m : M} {x : Nat} (h : Back s t w wr g F m x 0) : m.un = [] ∧ m.t = s := by
  have e : m.un = [] := List.eq_nil_of_length_eq_zero h.ln
  refine ⟨e, ?_⟩
  have := h.gd.1
  rw [e] at this
  simpa [apAll] using this
theorem small_more {n k : Nat} {m : M} (h : Small n m) (hk : n ≤ k) : Small k m := ⟨h.hw, h.h0, by have := h.h1; omega, by have := h.h2; omega⟩

set_option maxRecDepth 100000 in
set_option maxHeartbeats 9600000 in
theorem all_walk (s : ByteArray) (A : Option Addr) (c : Nat) (l : List S36) (w : World) (hs : s.size ≤ 140737488351232) (hr : Kd.C k36 w A l.length l) (hc : l.length ≤ c) (ho : ∀ x ∈ l, OkS x) (hy : l.length * 40 ≤ 140737488351232) :
    Calls Try.prog 8 #[.string s, .slice A l.length c] w fun r w' => r = .returned (.bool true) ∧ Below w.heap.size w w' := by
  have HR := Aside0.mk hr
  have HC := Aside0.mk hc
  have HO := Aside0.mk ho
  have HY := Aside0.mk hy
  clear hr hc ho hy
  by_cases hf : FewS s l
  · have HF := Aside0.mk hf
    clear hf
    go_enter Try.func8, Try.ntmps8
    go_wp2_with fail
    refine (awake_any w).mono ?_
    rintro r w1 ⟨rfl, hb⟩
    have B1 := Aside0.mk hb
    clear hb
    go_wp2_with fail
    refine (few_yes s A c l w1 hs (Kd.C_below HR.out B1.out) HC.out HO.out HY.out HF.out).mono ?_
    rintro r w2 ⟨rfl, hb⟩
    have B2 := Aside0.mk (B1.out.trans (hb.mono B1.out.size))
    clear hb B1
    go_wp2_with fail
    refine (new_st s B2.out).mono ?_
    rintro r w3 ⟨g, F, rfl, hst, -, -, -⟩
    have I0 := Aside0.mk (Inv.start hst HF.out)
    clear hst B2
    go_wp2_with fail
    go_loopg [6] l.length (fun kq v6 wr => ∃ (x : Int) (F : Nat → Prop) (m : M), v6 = .int .i64 x ∧ Aside0 (0 ≤ x ∧ x + kq = l.length ∧ Inv s l w wr g F m x.toNat))
    case atStart => exact ⟨0, F, _, rfl, ⟨Int.le_refl _, by omega, I0.out⟩⟩
    case round =>
      clear I0 F
      obtain ⟨x, F, m, rfl, HA⟩ := hrel
      obtain ⟨hx0, hxk, hI⟩ := HA.out
      clear HA
      cases gk with
      | zero =>
        have hd : decide (x < (l.length : Int)) = false := decide_eq_false (by omega)
        have IR := Aside0.mk hI
        have hun : m.un.length + m.re.length ≤ l.length := by have := hI.sm.h2; omega
        have hl30 : l.length ≤ 30 := HF.out.1
        have d1 : decide ((l.length : Int) < (m.un.length : Int)) = false := decide_eq_false (by omega)
        have d2 : decide ((l.length : Int) < (m.re.length : Int)) = false := decide_eq_false (by omega)
        have d3 : decide (l.length < m.un.length) = false := decide_eq_false (by omega)
        have d4 : decide (l.length < m.re.length) = false := decide_eq_false (by omega)
        have HX := Aside0.mk (show x.toNat ≤ 30 by omega)
        clear hI hxk hx0
        go_wp2_with fail
        refine (text_st IR.out.st m.t rfl).mono ?_
        rintro r wr' ⟨rfl, rfl⟩
        go_wp2_with fail
        refine (depth_st IR.out.st).mono ?_
        rintro r w4 ⟨rfl, hb⟩
        have J0 : Aside0 (Back s m.t w w4 g F m 0 m.un.length) := ⟨⟨IR.out.st.below hb, IR.out.gd, small_more IR.out.sm (by have := HX.out; omega), rfl, by simp [apAll], Nat.zero_le _⟩⟩
        clear hb IR HX
        generalize hT : m.t = T at J0 ⊢
        generalize hN : m.un.length = N at J0 hun d1 d3 ⊢
        generalize hM : m.re.length = MM at hun d2 d4 ⊢
        have M0 := Aside0.mk (show ∃ m, Back s T w w4 g F m 0 N from ⟨m, J0.out⟩)
        clear hT hN hM J0 m
        have hN30 : N ≤ 30 := by omega
        go_wp2_with fail
        go_loopg [10] N (fun kq v10 wr => ∃ (x : Int) (F : Nat → Prop) (m : M), v10 = .int .i64 x ∧ Aside0 (0 ≤ x ∧ x + kq = N ∧ Back s T w wr g F m x.toNat kq))
        case atStart =>
          obtain ⟨m, hm⟩ := M0.out
          exact ⟨0, F, m, rfl, ⟨Int.le_refl _, by omega, hm⟩⟩
        case round =>
          clear M0 F
          obtain ⟨x, F, m, rfl, HA⟩ := hrel
          obtain ⟨hx0, hxk, hI⟩ := HA.out
          clear HA
          cases gk with
          | succ k2 =>
            have hd2 : decide (x < (N : Int)) = true := decide_eq_true (by omega)
            obtain ⟨m', a, hu, hnx⟩ := hI.next
            have HW : Aside0 (wrap64 (x + 1) = x + 1) := ⟨w64 (by omega) (by omega)⟩
            have HU := Aside0.mk hu
            have HN := Aside0.mk hnx
            have HI := Aside0.mk hI
            have HK := Aside0.mk hxk
            have HX0 := Aside0.mk hx0
            have HX3 := Aside0.mk (show x.toNat ≤ 30 by omega)
            clear hu hnx hI hxk hx0
            go_wp2_with fail
            refine (undo_case HI.out.st HI.out.gd HI.out.sm (by have := HX3.out; omega) HU.out).mono ?_
            rintro r w5 ⟨rfl, F5, hs5, -, -⟩
            have S5 := Aside0.mk (HN.out _ _ (hs5.below (below_new w5 (.cells #[.int .i64 a.f0, .int .i64 a.f1, .string a.f2] 31))))
            clear hs5
            go_wp2
            go_roundg k2
            case measure => omega
            case rel => exact ⟨x + 1, F5, m', (by first | rfl | rw [HW.out]), ⟨by have := HX0.out; omega, by have := HK.out; omega, by rw [show (x + 1).toNat = x.toNat + 1 from by have := HX0.out; omega]; exact S5.out⟩⟩
          | zero =>
            have hd2 : decide (x < (N : Int)) = false := decide_eq_false (by omega)
            have hxN : x = (N : Int) := by omega
            have e1 := hI.done.1
            have e2 := hI.done.2
            have hu : undoM m = (m, z31, 15) := by unfold undoM; rw [e1]
            have J1 : Aside0 (∀ (w' : World) (F' : Nat → Prop), St w w' g F' m → ∃ m, Fore s T w w' g F' m 0 N) := ⟨fun w' F' h => ⟨m, h, hI.gd, small_more hI.sm (by omega), by
              have h1 := hI.lr
              omega, by
              have h1 := hI.bk
              rw [hxN, Int.toNat_natCast] at h1
              exact h1⟩⟩
            have HU := Aside0.mk hu
            have HI := Aside0.mk hI
            have HT := Aside0.mk e2
            have HX3 := Aside0.mk (show x.toNat ≤ 30 by omega)
            clear e1 e2 hu hI hxk hx0 hxN
            go_wp2_with fail
            refine (undo_case HI.out.st HI.out.gd HI.out.sm (by have := HX3.out; omega) HU.out).mono ?_
            rintro r w5 ⟨rfl, F5, hs5, -, -⟩
            have S5 := Aside0.mk (hs5.below (below_new w5 (.cells #[.int .i64 0, .int .i64 0, .string ⟨#[]⟩] 31)))
            clear hs5
            go_wp2_with fail
            refine (text_st S5.out s HT.out).mono ?_
            rintro r w5' ⟨rfl, rfl⟩
            generalize w5.alloc (.cells #[.int .i64 0, .int .i64 0, .string ⟨#[]⟩] 31) = W5 at S5 ⊢
            have M1 := Aside0.mk (J1.out _ _ S5.out)
            clear S5 J1 HI HT HU m
            go_wp2_with fail
            go_loopg [15] N (fun kq v15 wr => ∃ (x : Int) (F : Nat → Prop) (m : M), v15 = .int .i64 x ∧ Aside0 (0 ≤ x ∧ x + kq = N ∧ Fore s T w wr g F m x.toNat kq))
            case atStart =>
              obtain ⟨m, hm⟩ := M1.out
              exact ⟨0, F5, m, rfl, ⟨Int.le_refl _, by omega, hm⟩⟩
            case round =>
              clear M1 F5
              obtain ⟨x, F, m, rfl, HA⟩ := hrel
              obtain ⟨hx0, hxk, hI⟩ := HA.out
              clear HA
              cases gk with
              | succ k2 =>
                have hd2 : decide (x < (N : Int)) = true := decide_eq_true (by omega)
                obtain ⟨m', a, hu, hnx⟩ := hI.next
                have HW : Aside0 (wrap64 (x + 1) = x + 1) := ⟨w64 (by omega) (by omega)⟩
                have HU := Aside0.mk hu
                have HN := Aside0.mk hnx
                have HI := Aside0.mk hI
                have HK := Aside0.mk hxk
                have HX0 := Aside0.mk hx0
                have HX3 := Aside0.mk (show x.toNat ≤ 30 by omega)
                clear hu hnx hI hxk hx0
                go_wp2_with fail
                refine (redo_case HI.out.st HI.out.gd HI.out.sm (by have := HX3.out; omega) HU.out).mono ?_
                rintro r w5 ⟨rfl, F5, hs5, -, -⟩
                have S5 := Aside0.mk (HN.out _ _ (hs5.below (below_new w5 (.cells #[.int .i64 a.f0, .int .i64 a.f1, .string a.f2] 31))))
                clear hs5
                go_wp2
                go_roundg k2
                case measure => omega
                case rel => exact ⟨x + 1, F5, m', (by first | rfl | rw [HW.out]), ⟨by have := HX0.out; omega, by have := HK.out; omega, by rw [show (x + 1).toNat = x.toNat + 1 from by have := HX0.out; omega]; exact S5.out⟩⟩
              | zero =>
                have hd2 : decide (x < (N : Int)) = false := decide_eq_false (by omega)
                have e2 : m.t = T := by
                  have := hI.bk
                  simpa [apAll] using this
                have HI := Aside0.mk hI
                have HT := Aside0.mk e2
                clear e2 hI hxk hx0
                go_wp2_with fail
                refine (text_st HI.out.st T HT.out).mono ?_
                rintro r w7 ⟨rfl, rfl⟩
                go_wp2_with fail
                go_ret
                exact ⟨by simp, HI.out.st.bel⟩
      | succ k1 =>
        have hlt : x.toNat < l.length := by omega
        have hd : decide (x < (l.length : Int)) = true := decide_eq_true (by omega)
        have p1 : 0 ≤ x := hx0
        have q1 : x < (l.length : Int) := by omega
        obtain ⟨ad, eA, y0, y1, y2, y3⟩ := at_T36 HR.out x p1 q1
        cases eA
        have hxe : rd_T36 l x = l[x.toNat] := by
          have := rd36 hlt
          rw [Int.toNat_of_nonneg hx0] at this
          exact this
        obtain ⟨m', a, er, hst⟩ : ∃ m' a er, stepM m l[x.toNat] = (m', a, er) := ⟨_, _, _, rfl⟩
        have hB := hI.st.bel
        replace y0 := (hB.cell (World.block_lt_of_cell? w _ y0)).trans y0
        replace y1 := (hB.cell (World.block_lt_of_cell? w _ y1)).trans y1
        replace y2 := (hB.cell (World.block_lt_of_cell? w _ y2)).trans y2
        replace y3 := (hB.cell (World.block_lt_of_cell? w _ y3)).trans y3
        have HW : Aside0 (wrap64 (x + 1) = x + 1) := ⟨w64 (by omega) (by have := HF.out.1; omega)⟩
        have HX := Aside0.mk hxe
        have HS := Aside0.mk hst
        have HI := Aside0.mk hI
        have HK := Aside0.mk hxk
        have HX0 := Aside0.mk hx0
        clear hxe hst hI hxk hx0 hB
        replace p1 := eq_true p1
        replace q1 := eq_true q1
        go_wp2_with fail
        refine (run_inv HI.out hlt HF.out.1 HO.out HS.out (rd_T36 l x) HX.out).mono ?_
        rintro r w4 ⟨rfl, F', hI', hf', hd'⟩
        have HJ := Aside0.mk hI'
        clear hI' hf' hd'
        go_wp2
        go_roundg k1
        case measure => omega
        case rel => exact ⟨x + 1, F', m', (by first | rfl | rw [HW.out]), ⟨by have := HX0.out; omega, by have := HK.out; omega, by rw [show (x + 1).toNat = x.toNat + 1 from by have := HX0.out; omega]; exact HJ.out⟩⟩
  · have HF := Aside0.mk hf
    clear hf
    go_enter Try.func8, Try.ntmps8
    go_wp2_with fail
    refine (awake_any w).mono ?_
    rintro r w1 ⟨rfl, hb⟩
    have B1 := Aside0.mk hb
    clear hb
    go_wp2_with fail
    refine (few_no s A c l w1 hs (Kd.C_below HR.out B1.out) HC.out HO.out HY.out HF.out).mono ?_
    rintro r w2 ⟨rfl, hb⟩
    have B2 := Aside0.mk (B1.out.trans (hb.mono B1.out.size))
    clear hb B1
    go_wp2_with fail
    go_ret
    exact ⟨rfl, B2.out⟩
end Go.Proofs.Ytnmgcghbfnpofaa.Hist
namespace Go.Proofs.Ytnmgcghbfnpofaa.Walk
open Go.RowKit Go.Proofs.Ytnmgcghbfnpofaa.PAll Go.Proofs.YtnmgcghbfnpofaaW.PrintWords Go.Proofs.Ytnmgcghbfnpofaa.Open
theorem UndoAll (s : ByteArray) (A : Option Addr) (c : Nat) (l : List S36) (w : World) (hs : s.size ≤ 140737488351232) (hr : Kd.C k36 w A l.length l) (hc : l.length ≤ c) (ho : ∀ x ∈ l, OkS x) (hy : l.length * 40 ≤ 140737488351232) :
    Calls Try.prog 8 #[.string s, .slice A l.length c] w fun r w' => r = .returned (.bool true) ∧ Below w.heap.size w w' := Hist.all_walk s A c l w hs hr hc ho hy
end Go.Proofs.Ytnmgcghbfnpofaa.Walk
