/- UndoDiscardsRedo, walked. -/
import Derived.Test.YtnmgcghbfnpofaaU9
namespace Go.Proofs.Ytnmgcghbfnpofaa.Hist
open Go.RowKit Go.Proofs.Ytnmgcghbfnpofaa.PAll Go.Proofs.YtnmgcghbfnpofaaW.PrintWords Go.Proofs.Ytnmgcghbfnpofaa.Open Go.Proofs.Ytnmgcghbfnpofaa.Plain
set_option linter.unusedVariables false

attribute [local go_sem high] eqA31
set_option maxRecDepth 100000 in
set_option maxHeartbeats 12800000 in
theorem discards_walk (s : ByteArray) (A : Option Addr) (c : Nat) (l : List S36) (e : S31) (w : World) (hs : s.size ≤ 140737488351232) (hr : Kd.C k36 w A l.length l) (hc : l.length ≤ c) (ho : ∀ x ∈ l, OkS x) (hy : l.length * 40 ≤ 140737488351232) (hoe : OkE e) :
    Calls Try.prog 9 #[.string s, .slice A l.length c, .agg #[.int .i64 e.f0, .int .i64 e.f1, .string e.f2]] w fun r w' => r = .returned (.bool true) ∧ Below w.heap.size w w' := by
  have HR := Aside0.mk hr
  have HC := Aside0.mk hc
  have HO := Aside0.mk ho
  have HY := Aside0.mk hy
  clear hr hc ho hy
  by_cases hf : FewS s l
  · by_cases hin : e.f2.size ≤ 1000
    · have HF := Aside0.mk hf
      have hl30 := hf.1
      have HE : Aside0 (e.f2.size ≤ 1099511627776) := ⟨by omega⟩
      have hgt : decide ((1000 : Int) < (e.f2.size : Int)) = false := decide_eq_false (by omega)
      clear hf
      go_enter Try.func9, Try.ntmps9
      go_wp2_with fail
      have K0 := Aside0.mk (blk_new w (.cells #[.int .i64 e.f0, .int .i64 e.f1, .string e.f2] 31))
      have B0 := Aside0.mk (below_new w (.cells #[.int .i64 e.f0, .int .i64 e.f1, .string e.f2] 31))
      generalize w.alloc (.cells #[.int .i64 e.f0, .int .i64 e.f1, .string e.f2] 31) = W at K0 B0 ⊢
      refine (awake_any W).mono ?_
      rintro r w1 ⟨rfl, hb⟩
      have K1 := Aside0.mk (blk_below K0.out hb)
      have B1 := Aside0.mk (B0.out.trans (hb.mono B0.out.size))
      clear hb K0 B0
      go_wp2_with fail
      refine (few_yes s A c l w1 hs (Kd.C_below HR.out B1.out) HC.out HO.out HY.out HF.out).mono ?_
      rintro r w2 ⟨rfl, hb⟩
      have K2 := Aside0.mk (blk_below K1.out hb)
      have B2 := Aside0.mk (B1.out.trans (hb.mono B1.out.size))
      clear hb B1 K1
      have q2 : w2.cell? ⟨w.heap.size, 2, none⟩ = some (.string e.f2) := (blk_cell K2.out 2).trans rfl
      go_wp2_with fail
      refine (new_st s B2.out).mono ?_
      rintro r w3 ⟨h, F, rfl, hst, -, hFn, hb⟩
      have K3 : Aside0 (Kp w3 F w.heap.size (.cells #[.int .i64 e.f0, .int .i64 e.f1, .string e.f2] 31)) := ⟨⟨blk_below K2.out hb, fun hk => by have := hFn _ hk; have := blk_lt K2.out; omega⟩⟩
      have S3 := Aside0.mk hst
      clear hst B2 q2 K2 hFn hb
      go_wp2_with fail
      refine (new_st s S3.out.bel).mono ?_
      rintro r w4 ⟨g, G, rfl, hst, -, hGn, hb⟩
      have T4 := Aside0.mk (Two.start S3.out K3.out hst hGn hb)
      clear hst S3 K3 hGn hb
      go_wp2_with fail
      go_loopg [9] l.length (fun kq v9 wr => ∃ (x : Int) (F : Nat → Prop) (m : M), v9 = .int .i64 x ∧ Aside0 (0 ≤ x ∧ x + kq = l.length ∧ m = dos ⟨s, 0, [], []⟩ (l.take x.toNat) ∧ Gd s l x.toNat m ∧ Two w wr h F m g G ⟨s, 0, [], []⟩ w.heap.size (.cells #[.int .i64 e.f0, .int .i64 e.f1, .string e.f2] 31)))
      case atStart => exact ⟨0, F, _, rfl, ⟨Int.le_refl _, by omega, rfl, gd_start HF.out, T4.out⟩⟩
      case round =>
        clear T4 F
        obtain ⟨x, F, m, rfl, HA⟩ := hrel
        obtain ⟨hx0, hxk, hm, hG, hT⟩ := HA.out
        clear HA
        cases gk with
        | zero =>
          have hd : decide (x < (l.length : Int)) = false := decide_eq_false (by omega)
          have hxl : x.toNat = l.length := by omega
          rw [hxl, List.take_length] at hm
          rw [hxl] at hG
          have HM := Aside0.mk hm
          have HG := Aside0.mk hG
          have HT := Aside0.mk hT
          clear hm hG hT hxk hx0 hxl
          go_wp2_with fail
          refine (depth_two HT.out.sh m.un.length rfl).mono ?_
          rintro r w5 ⟨q, rfl, hb⟩
          have T5 := Aside0.mk (HT.out.below hb)
          clear hb HT
          go_wp2_with fail
          go_loopg [12] (min 2 m.un.length) (fun kq v12 wr2 => ∃ (y : Int) (F : Nat → Prop) (m2 : M), v12 = .int .i64 y ∧ Aside0 (0 ≤ y ∧ y + kq = (min 2 m.un.length : Nat) ∧ (m2.un.length : Int) + y = m.un.length ∧ Good s m2 ∧ Small (l.length + y.toNat) m2 ∧ wt m2 ≤ 20000 ∧ (∀ k, k ≤ m2.un.length → back m2 k = back m k) ∧ Two w wr2 h F m2 g G ⟨s, 0, [], []⟩ w.heap.size (.cells #[.int .i64 e.f0, .int .i64 e.f1, .string e.f2] 31)))
          case atStart => exact ⟨0, F, m, rfl, ⟨Int.le_refl _, by omega, by omega, HG.out.gd, HG.out.sm, by have := HG.out.wb; omega, fun _ _ => rfl, T5.out⟩⟩
          case round =>
            clear T5 F
            obtain ⟨y, F, m2, rfl, HA⟩ := hrel
            obtain ⟨hy0, hyk, hyl, hg2, hs2, hw2, hb2, hT⟩ := HA.out
            clear HA
            cases gk with
            | zero =>
              have HT := Aside0.mk hT
              have HB := Aside0.mk hb2
              have G2 := Aside0.mk hg2
              have N2 := Aside0.mk (small_more hs2 (show l.length + y.toNat ≤ 40 by omega))
              have W2 := Aside0.mk hw2
              have hcase : decide (y < (2 : Int)) = false ∨ (decide (y < (2 : Int)) = true ∧ decide (y < (m.un.length : Int)) = false) := by
                by_cases h : y < 2
                · exact Or.inr ⟨decide_eq_true h, decide_eq_false (by omega)⟩
                · exact Or.inl (decide_eq_false h)
              have hul : m2.un.length ≤ m.un.length := by omega
              clear hT hb2 hg2 hs2 hw2 hyk hyl hy0
              rcases hcase with d1 | ⟨d1, d2⟩
              all_goals
                go_wp2_with fail
                refine (depth_two HT.out.sh m2.un.length rfl).mono ?_
                rintro r w6 ⟨q', rfl, hb⟩
                have T6 := Aside0.mk (HT.out.below hb)
                clear hb HT
                go_wp2_with fail
                go_loopg [15, 16] l.length (fun kq v15 v16 wr3 => ∃ (i : Int) (G : Nat → Prop) (n : M), v15 = .int .i64 (n.un.length : Int) ∧ v16 = .int .i64 i ∧ Aside0 (0 ≤ i ∧ i + kq = l.length ∧ n.un.length ≤ m2.un.length ∧ n = dos ⟨s, 0, [], []⟩ (l.take i.toNat) ∧ Gd s l i.toNat n ∧ Two w wr3 h F m2 g G n w.heap.size (.cells #[.int .i64 e.f0, .int .i64 e.f1, .string e.f2] 31)))
                case atStart => exact ⟨0, G, ⟨s, 0, [], []⟩, rfl, rfl, ⟨Int.le_refl _, by omega, Nat.zero_le _, rfl, gd_start HF.out, T6.out⟩⟩
                case round =>
                  clear T6
                  obtain ⟨i, G, n, rfl, rfl, HA⟩ := hrel
                  obtain ⟨hi0, hik, hnk, hn, hG3, hT3⟩ := HA.out
                  clear HA
                  have hnl : n.un.length ≤ 30 := by have := hG3.sm.h2; omega
                  by_cases hgo : i < (l.length : Int) ∧ (n.un.length : Int) < m2.un.length
                  · obtain ⟨hi1, hlt2⟩ := hgo
                    cases gk with
                    | zero => exact absurd hi1 (by omega)
                    | succ k1 =>
                      have c1 : decide (i < (l.length : Int)) = true := decide_eq_true hi1
                      have c2 : decide (n.un.length < m2.un.length) = true := decide_eq_true (by omega)
                      have hlt : i.toNat < l.length := by omega
                      have p1 : 0 ≤ i := hi0
                      have q1 : i < (l.length : Int) := hi1
                      obtain ⟨ad, eA, y0, y1, y2, y3⟩ := at_T36 HR.out i p1 q1
                      cases eA
                      have hxe : rd_T36 l i = l[i.toNat] := by
                        have := rd36 hlt
                        rw [Int.toNat_of_nonneg hi0] at this
                        exact this
                      have hzz := szS_get hlt
                      have hB := hT3.sh.bel
                      replace y0 := (hB.cell (World.block_lt_of_cell? w _ y0)).trans y0
                      replace y1 := (hB.cell (World.block_lt_of_cell? w _ y1)).trans y1
                      replace y2 := (hB.cell (World.block_lt_of_cell? w _ y2)).trans y2
                      replace y3 := (hB.cell (World.block_lt_of_cell? w _ y3)).trans y3
                      have HW : Aside0 (wrap64 (i + 1) = i + 1) := ⟨w64 (by omega) (by omega)⟩
                      have HV : Aside0 (wrap64 ((n.un.length : Int) + 1) = (n.un.length : Int) + 1) := ⟨w64 (by omega) (by omega)⟩
                      obtain ⟨n', er, hdo⟩ : ∃ n' er, doM n (rd_T36 l i).f1 = (n', er) := ⟨_, _, rfl⟩
                      have hn' : n' = dos ⟨s, 0, [], []⟩ (l.take (i + 1).toNat) := by
                        rw [show (i + 1).toNat = i.toNat + 1 by omega, dos_succ _ _ _ hlt, ← hn, ← hxe, hdo]
                      have hG' : Gd s l (i + 1).toNat n' := by
                        rw [show (i + 1).toNat = i.toNat + 1 by omega]
                        have := gd_do hG3 hlt
                        rw [← hxe, hdo] at this
                        exact this
                      have hsz : (rd_T36 l i).f1.f2.size ≤ 1099511627776 := by rw [hxe]; have := HF.out.2; omega
                      have hx30 : i.toNat ≤ 100000 := by omega
                      have hlen := do_len n (rd_T36 l i).f1
                      rw [hdo] at hlen
                      dsimp only at hlen
                      have HL := Aside0.mk hlen
                      have HM' := Aside0.mk hn'
                      have HG3 := Aside0.mk hG3
                      have HG' := Aside0.mk hG'
                      have HT3 := Aside0.mk hT3
                      have HD := Aside0.mk hdo
                      have HZ := Aside0.mk hsz
                      have HK := Aside0.mk hik
                      have HX0 := Aside0.mk hi0
                      have HLT := Aside0.mk hlt2
                      clear hxe hzz hB hdo hn hn' hG3 hG' hT3 hsz hik hi0 hlt hlen hi1 hlt2 hnk
                      replace p1 := eq_true p1
                      replace q1 := eq_true q1
                      by_cases her : er = 0
                      · have heb : (er == 0) = true := beq_iff_eq.2 her
                        have HER := Aside0.mk her
                        clear her
                        go_wp2_with fail
                        refine (do_case (rd_T36 l i).f1 HT3.out.sg HG3.out.sm hx30 HZ.out HD.out).mono ?_
                        rintro r w7 ⟨rfl, G7, hs7, hf7, hd7⟩
                        have T7 := Aside0.mk (HT3.out.right hs7 hf7 hd7)
                        clear hs7 hf7 hd7
                        go_wp2
                        go_roundg k1
                        case measure => omega
                        case rel => exact ⟨i + 1, G7, n', (by rw [(HL.out.1 HER.out), Int.natCast_add]; first | rfl | rw [HV.out] | (rw [HV.out]; rfl)), (by first | rfl | rw [HW.out]), ⟨by have := HX0.out; omega, by have := HK.out; omega, by have := HL.out.1 HER.out; have := HLT.out; omega, HM'.out, HG'.out, T7.out⟩⟩
                      · have heb : (er == 0) = false := beq_eq_false_iff_ne.2 her
                        have HER := Aside0.mk her
                        clear her
                        go_wp2_with fail
                        refine (do_case (rd_T36 l i).f1 HT3.out.sg HG3.out.sm hx30 HZ.out HD.out).mono ?_
                        rintro r w7 ⟨rfl, G7, hs7, hf7, hd7⟩
                        have T7 := Aside0.mk (HT3.out.right hs7 hf7 hd7)
                        clear hs7 hf7 hd7
                        go_wp2
                        go_roundg k1
                        case measure => omega
                        case rel => exact ⟨i + 1, G7, n', (by rw [HL.out.2 HER.out]), (by first | rfl | rw [HW.out]), ⟨by have := HX0.out; omega, by have := HK.out; omega, by have := HL.out.2 HER.out; have := HLT.out; omega, HM'.out, HG'.out, T7.out⟩⟩
                  · have hcase2 : decide (i < (l.length : Int)) = false ∨ (decide (i < (l.length : Int)) = true ∧ decide (n.un.length < m2.un.length) = false) := by
                      by_cases h : i < (l.length : Int)
                      · exact Or.inr ⟨decide_eq_true h, decide_eq_false (fun h' => hgo ⟨h, by omega⟩)⟩
                      · exact Or.inl (decide_eq_false h)
                    have hkk : n.un.length = m2.un.length := by
                      by_cases h : i < (l.length : Int)
                      · have : ¬ (n.un.length : Int) < m2.un.length := fun h' => hgo ⟨h, h'⟩
                        omega
                      · have hil : i.toNat = l.length := by omega
                        rw [hil, List.take_length, ← HM.out] at hn
                        rw [hn] at hnk ⊢
                        omega
                    have htx : m2.t = n.t := by
                      have h1 := back_self m2
                      have h2 := HB.out m2.un.length (Nat.le_refl _)
                      have h3 := back_take ⟨s, 0, [], []⟩ l i.toNat
                      rw [← hn, ← HM.out, hkk, ← h2, h1] at h3
                      exact Option.some.inj h3
                    obtain ⟨m5, er, hd1⟩ : ∃ m5 er, doM m2 e = (m5, er) := ⟨_, _, rfl⟩
                    obtain ⟨n5, er', hd2⟩ : ∃ n5 er', doM n e = (n5, er') := ⟨_, _, rfl⟩
                    have hsame := do_same htx e
                    rw [hd1, hd2] at hsame
                    dsimp only at hsame
                    obtain ⟨rfl, hsame⟩ := hsame
                    have g5 := good_do e G2.out
                    have n5s := small_do N2.out e (by have := W2.out; omega)
                    rw [hd1] at g5 n5s
                    dsimp only at g5 n5s
                    have hi30 : i.toNat ≤ 100000 := by omega
                    have D1 := Aside0.mk hd1
                    have D2 := Aside0.mk hd2
                    have G5 := Aside0.mk g5
                    have N5 := Aside0.mk n5s
                    have SM := Aside0.mk hsame
                    have HG3 := Aside0.mk hG3
                    have HT3 := Aside0.mk hT3
                    have TW : Aside0 (Two w wr.drew h F m2 g G n w.heap.size (.cells #[.int .i64 e.f0, .int .i64 e.f1, .string e.f2] 31)) := ⟨hT3.below ((Below.refl _ _).drew)⟩
                    have x0 : wr.cell? ⟨w.heap.size, 0, none⟩ = some (.int .i64 e.f0) := (blk_cell hT3.kf.blk 0).trans rfl
                    have x1 : wr.cell? ⟨w.heap.size, 1, none⟩ = some (.int .i64 e.f1) := (blk_cell hT3.kf.blk 1).trans rfl
                    have x2 : wr.cell? ⟨w.heap.size, 2, none⟩ = some (.string e.f2) := (blk_cell hT3.kf.blk 2).trans rfl
                    clear hgo hkk htx hd1 hd2 hsame g5 n5s hG3 hT3 hn hnk hik hi0 hnl
                    by_cases her : er = 0
                    · subst her
                      obtain ⟨ht5, hre5⟩ := SM.out rfl
                      have T5 : Aside0 (n5.t = m5.t) := ⟨ht5.symm⟩
                      have HE5 := Aside0.mk (redo_nil hre5)
                      clear ht5 hre5 SM
                      rcases hcase2 with e1 | ⟨e1, e2⟩
                      all_goals
                        go_wp2_with fail
                        go_region_held3 (fun w' => w'.cell? ⟨w.heap.size, 0, none⟩ = some (.int .i64 e.f0) ∧ w'.cell? ⟨w.heap.size, 1, none⟩ = some (.int .i64 e.f1) ∧ w'.cell? ⟨w.heap.size, 2, none⟩ = some (.string e.f2))
                          (first | exact ⟨k0, k1, k2⟩ | exact ⟨j0, j1, j2⟩ | go_keep)
                          (first
                            | (go_at_call 28; (with_reducible refine (do_case e TW.out.sh N2.out (by omega) HE.out D1.out).mono ?_); rintro r w7 ⟨rfl, F7, hs7, hf7, hd7⟩; have T7 := Aside0.mk (TW.out.left hs7 hf7 hd7); clear hs7 hf7 hd7; have k0 := (blk_cell T7.out.kf.blk 0).trans rfl; have k1 := (blk_cell T7.out.kf.blk 1).trans rfl; have k2 := (blk_cell T7.out.kf.blk 2).trans rfl)
                            | (go_at_call 28; (with_reducible refine (do_case e T7.out.sg HG3.out.sm hi30 HE.out D2.out).mono ?_); rintro r w8 ⟨rfl, G8, hs8, hf8, hd8⟩; have T8 := Aside0.mk (T7.out.right hs8 hf8 hd8); clear hs8 hf8 hd8; have j0 := (blk_cell T8.out.kf.blk 0).trans rfl; have j1 := (blk_cell T8.out.kf.blk 1).trans rfl; have j2 := (blk_cell T8.out.kf.blk 2).trans rfl))
                        go_wp2_with fail
                        refine (redo_case T8.out.sh G5.out N5.out (by omega) HE5.out).mono ?_
                        rintro r w9 ⟨rfl, F9, hs9, hf9, hd9⟩
                        have T9 := Aside0.mk (T8.out.left hs9 hf9 hd9)
                        clear hs9 hf9 hd9
                        go_wp2_with fail
                        refine (text_st (T9.out.sh.below (below_new _ _)) m5.t rfl).mono ?_
                        rintro r wa ⟨rfl, rfl⟩
                        go_wp2_with fail
                        refine (text_st (T9.out.sg.below (below_new _ _)) m5.t T5.out).mono ?_
                        rintro r wb ⟨rfl, rfl⟩
                        go_wp2_with fail
                        go_ret
                        exact ⟨by simp, (T9.out.sh.below (below_new _ _)).bel⟩
                    · have h1 : (er == 0) = false := beq_eq_false_iff_ne.2 her
                      have h2 : (er != 0) = true := bne_iff_ne.2 her
                      obtain ⟨m6, a, er6, hre⟩ : ∃ m6 a er6, redoM m5 = (m6, a, er6) := ⟨_, _, _, rfl⟩
                      have HE5 := Aside0.mk hre
                      clear her SM hre
                      rcases hcase2 with e1 | ⟨e1, e2⟩
                      all_goals
                        go_wp2_with fail
                        go_region_held3 (fun w' => w'.cell? ⟨w.heap.size, 0, none⟩ = some (.int .i64 e.f0) ∧ w'.cell? ⟨w.heap.size, 1, none⟩ = some (.int .i64 e.f1) ∧ w'.cell? ⟨w.heap.size, 2, none⟩ = some (.string e.f2))
                          (first | exact ⟨k0, k1, k2⟩ | exact ⟨j0, j1, j2⟩ | go_keep)
                          (first
                            | (go_at_call 28; (with_reducible refine (do_case e TW.out.sh N2.out (by omega) HE.out D1.out).mono ?_); rintro r w7 ⟨rfl, F7, hs7, hf7, hd7⟩; have T7 := Aside0.mk (TW.out.left hs7 hf7 hd7); clear hs7 hf7 hd7; have k0 := (blk_cell T7.out.kf.blk 0).trans rfl; have k1 := (blk_cell T7.out.kf.blk 1).trans rfl; have k2 := (blk_cell T7.out.kf.blk 2).trans rfl)
                            | (go_at_call 28; (with_reducible refine (do_case e T7.out.sg HG3.out.sm hi30 HE.out D2.out).mono ?_); rintro r w8 ⟨rfl, G8, hs8, hf8, hd8⟩; have T8 := Aside0.mk (T7.out.right hs8 hf8 hd8); clear hs8 hf8 hd8; have j0 := (blk_cell T8.out.kf.blk 0).trans rfl; have j1 := (blk_cell T8.out.kf.blk 1).trans rfl; have j2 := (blk_cell T8.out.kf.blk 2).trans rfl))
                        go_wp2_with fail
                        refine (redo_case T8.out.sh G5.out N5.out (by omega) HE5.out).mono ?_
                        rintro r w9 ⟨rfl, F9, hs9, hf9, hd9⟩
                        have T9 := Aside0.mk (T8.out.left hs9 hf9 hd9)
                        clear hs9 hf9 hd9
                        go_wp2_with fail
                        go_ret
                        exact ⟨by simp, (T9.out.sh.below (below_new _ _)).bel⟩
            | succ k1 =>
              have hy2 : y < 2 := by omega
              have hyd : y < (m.un.length : Int) := by omega
              have d1 : decide (y < (2 : Int)) = true := decide_eq_true hy2
              have d2 : decide (y < (m.un.length : Int)) = true := decide_eq_true hyd
              obtain ⟨m3, a, hun, hlen, hback⟩ := undo_back hg2 (by omega)
              have n3 := small_undo hs2 hg2
              have g3 := good_undo hg2
              have z3 := wt_undo hg2
              rw [hun] at n3 g3 z3
              dsimp only at n3 g3 z3
              have HU := Aside0.mk hun
              have HT := Aside0.mk hT
              have G2 := Aside0.mk hg2
              have N2 := Aside0.mk hs2
              have HW : Aside0 (wrap64 (y + 1) = y + 1) := ⟨w64 (by omega) (by omega)⟩
              have HZ : Aside0 (0 ≤ y + 1 ∧ y + 1 + k1 = (min 2 m.un.length : Nat) ∧ (m3.un.length : Int) + (y + 1) = m.un.length ∧ Good s m3 ∧ Small (l.length + (y + 1).toNat) m3 ∧ wt m3 ≤ 20000 ∧ (∀ k, k ≤ m3.un.length → back m3 k = back m k)) :=
                ⟨by omega, by omega, by omega, g3, by rw [show l.length + (y + 1).toNat = l.length + y.toNat + 1 by omega]; exact n3, by omega, fun k hk => (hback k hk).trans (hb2 k (by omega))⟩
              have hlt40 : l.length + y.toNat ≤ 100000 := by omega
              clear hun hlen hback n3 g3 z3 hT hb2 hg2 hs2 hw2 hyk hyl hy0 hy2 hyd
              go_wp2_with fail
              refine (undo_case HT.out.sh G2.out N2.out hlt40 HU.out).mono ?_
              rintro r w6 ⟨rfl, F6, hs6, hf6, hd6⟩
              have T6 := Aside0.mk (HT.out.left hs6 hf6 hd6)
              clear hs6 hf6 hd6
              go_wp2
              go_roundg k1
              case measure => omega
              case rel => exact ⟨y + 1, F6, m3, (by first | rfl | rw [HW.out]), ⟨HZ.out.1, HZ.out.2.1, HZ.out.2.2.1, HZ.out.2.2.2.1, HZ.out.2.2.2.2.1, HZ.out.2.2.2.2.2.1, HZ.out.2.2.2.2.2.2, T6.out⟩⟩
        | succ k1 =>
          have hlt : x.toNat < l.length := by omega
          have hd : decide (x < (l.length : Int)) = true := decide_eq_true (by omega)
          have p1 : 0 ≤ x := hx0
          have q1 : x < (l.length : Int) := by omega
          obtain ⟨ad, eA, y0, y1, y2, y3⟩ := at_T36 HR.out x p1 q1
          cases eA
          have hxe : rd_T36 l x = l[x.toNat] := by
            have := rd36 hlt
            rw [Int.toNat_of_nonneg hx0] at this
            exact this
          have hok := HO.out _ (List.getElem_mem hlt)
          rw [← hxe] at hok
          have hu := hok.1
          simp only [Lit.wf, IntKind.min, IntKind.max, IntKind.signed, IntKind.bits] at hu
          have hu0 : 0 ≤ (rd_T36 l x).f0 := by revert hu; simp; omega
          have hu1 : (rd_T36 l x).f0 ≤ 255 := by revert hu; simp
          have hzz := szS_get hlt
          have hB := hT.sh.bel
          replace y0 := (hB.cell (World.block_lt_of_cell? w _ y0)).trans y0
          replace y1 := (hB.cell (World.block_lt_of_cell? w _ y1)).trans y1
          replace y2 := (hB.cell (World.block_lt_of_cell? w _ y2)).trans y2
          replace y3 := (hB.cell (World.block_lt_of_cell? w _ y3)).trans y3
          have HW : Aside0 (wrap64 (x + 1) = x + 1) := ⟨w64 (by omega) (by omega)⟩
          obtain ⟨m', er, hdo⟩ : ∃ m' er, doM m (rd_T36 l x).f1 = (m', er) := ⟨_, _, rfl⟩
          have hm' : m' = dos ⟨s, 0, [], []⟩ (l.take (x + 1).toNat) := by
            rw [show (x + 1).toNat = x.toNat + 1 by omega, dos_succ _ _ _ hlt, ← hm, ← hxe, hdo]
          have hG' : Gd s l (x + 1).toNat m' := by
            rw [show (x + 1).toNat = x.toNat + 1 by omega]
            have := gd_do hG hlt
            rw [← hxe, hdo] at this
            exact this
          have hsz : (rd_T36 l x).f1.f2.size ≤ 1099511627776 := by rw [hxe]; have := HF.out.2; omega
          have hx30 : x.toNat ≤ 100000 := by omega
          have HM := Aside0.mk hm'
          have HG := Aside0.mk hG
          have HG' := Aside0.mk hG'
          have HT := Aside0.mk hT
          have HD := Aside0.mk hdo
          have HZ := Aside0.mk hsz
          have HK := Aside0.mk hxk
          have HX0 := Aside0.mk hx0
          clear hxe hok hu hzz hB hdo hm hm' hG hG' hT hsz hxk hx0 hlt
          replace p1 := eq_true p1
          replace q1 := eq_true q1
          by_cases hk : (rd_T36 l x).f0 % 3 = 0
          · have hk1 : ((rd_T36 l x).f0 % 3 != 0) = false := by rw [hk]; rfl
            clear hk
            go_wp2_with fail
            refine (do_case (rd_T36 l x).f1 HT.out.sh HG.out.sm hx30 HZ.out HD.out).mono ?_
            rintro r w5 ⟨rfl, F5, hs5, hf5, hd5⟩
            have T5 := Aside0.mk (HT.out.left hs5 hf5 hd5)
            clear hs5 hf5 hd5
            go_wp2
            go_roundg k1
            case measure => omega
            case rel => exact ⟨x + 1, F5, m', (by first | rfl | rw [HW.out]), ⟨by have := HX0.out; omega, by have := HK.out; omega, HM.out, HG'.out, T5.out⟩⟩
          · have hk1 : ((rd_T36 l x).f0 % 3 != 0) = true := bne_iff_ne.2 hk
            clear hk
            go_wp2_with fail
            go_ret
            exact ⟨rfl, HT.out.sh.bel⟩
    · have HF := Aside0.mk hf
      have hgt : decide ((1000 : Int) < (e.f2.size : Int)) = true := decide_eq_true (by omega)
      clear hf
      go_enter Try.func9, Try.ntmps9
      go_wp2_with fail
      have K0 := Aside0.mk (blk_new w (.cells #[.int .i64 e.f0, .int .i64 e.f1, .string e.f2] 31))
      have B0 := Aside0.mk (below_new w (.cells #[.int .i64 e.f0, .int .i64 e.f1, .string e.f2] 31))
      generalize w.alloc (.cells #[.int .i64 e.f0, .int .i64 e.f1, .string e.f2] 31) = W at K0 B0 ⊢
      refine (awake_any W).mono ?_
      rintro r w1 ⟨rfl, hb⟩
      have K1 := Aside0.mk (blk_below K0.out hb)
      have B1 := Aside0.mk (B0.out.trans (hb.mono B0.out.size))
      clear hb K0 B0
      go_wp2_with fail
      refine (few_yes s A c l w1 hs (Kd.C_below HR.out B1.out) HC.out HO.out HY.out HF.out).mono ?_
      rintro r w2 ⟨rfl, hb⟩
      have K2 := Aside0.mk (blk_below K1.out hb)
      have B2 := Aside0.mk (B1.out.trans (hb.mono B1.out.size))
      clear hb B1 K1
      have q2 : w2.cell? ⟨w.heap.size, 2, none⟩ = some (.string e.f2) := (blk_cell K2.out 2).trans rfl
      go_wp2_with fail
      go_ret
      exact ⟨rfl, B2.out⟩
  · have HF := Aside0.mk hf
    clear hf
    go_enter Try.func9, Try.ntmps9
    go_wp2_with fail
    have K0 := Aside0.mk (blk_new w (.cells #[.int .i64 e.f0, .int .i64 e.f1, .string e.f2] 31))
    have B0 := Aside0.mk (below_new w (.cells #[.int .i64 e.f0, .int .i64 e.f1, .string e.f2] 31))
    generalize w.alloc (.cells #[.int .i64 e.f0, .int .i64 e.f1, .string e.f2] 31) = W at K0 B0 ⊢
    refine (awake_any W).mono ?_
    rintro r w1 ⟨rfl, hb⟩
    have K1 := Aside0.mk (blk_below K0.out hb)
    have B1 := Aside0.mk (B0.out.trans (hb.mono B0.out.size))
    clear hb K0 B0
    go_wp2_with fail
    refine (few_no s A c l w1 hs (Kd.C_below HR.out B1.out) HC.out HO.out HY.out HF.out).mono ?_
    rintro r w2 ⟨rfl, hb⟩
    have K2 := Aside0.mk (blk_below K1.out hb)
    have B2 := Aside0.mk (B1.out.trans (hb.mono B1.out.size))
    clear hb B1 K1
    have q2 : w2.cell? ⟨w.heap.size, 2, none⟩ = some (.string e.f2) := (blk_cell K2.out 2).trans rfl
    go_wp2_with fail
    go_ret
    exact ⟨rfl, B2.out⟩
end Go.Proofs.Ytnmgcghbfnpofaa.Hist
namespace Go.Proofs.Ytnmgcghbfnpofaa.Walk
open Go.RowKit Go.Proofs.Ytnmgcghbfnpofaa.PAll Go.Proofs.YtnmgcghbfnpofaaW.PrintWords Go.Proofs.Ytnmgcghbfnpofaa.Open
theorem UndoDiscardsRedo (s : ByteArray) (A : Option Addr) (c : Nat) (l : List S36) (e : S31) (w : World) (hs : s.size ≤ 140737488351232) (hr : Kd.C k36 w A l.length l) (hc : l.length ≤ c) (ho : ∀ x ∈ l, OkS x) (hy : l.length * 40 ≤ 140737488351232) (hoe : OkE e) :
    Calls Try.prog 9 #[.string s, .slice A l.length c, .agg #[.int .i64 e.f0, .int .i64 e.f1, .string e.f2]] w fun r w' => r = .returned (.bool true) ∧ Below w.heap.size w w' := Hist.discards_walk s A c l e w hs hr hc ho hy hoe
end Go.Proofs.Ytnmgcghbfnpofaa.Walk
