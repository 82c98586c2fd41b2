/- UndoHistory, walked: the history against the reference. -/
import Derived.Test.YtnmgcghbfnpofaaU10
namespace Go.Proofs.Ytnmgcghbfnpofaa.Hist
open Go.RowKit Go.Proofs.Ytnmgcghbfnpofaa.PAll Go.Proofs.YtnmgcghbfnpofaaW.PrintWords Go.Proofs.Ytnmgcghbfnpofaa.Open Go.Proofs.Ytnmgcghbfnpofaa.Plain
set_option linter.unusedVariables false

/-- The reference's state in the block p: its list lies in blocks of its own. -/
structure Ref (base : Nat) (w : World) (F : Nat → Prop) (p : Nat) (s : ByteArray) (u : Value) (P : Nat → Prop) (L : List S31) (d : Nat) (v : Int) : Prop where
  kp : Kp w F p (.cells #[.string s, u, .int .i64 d, .int .i64 v] 29)
  row : Kd.R k31 31 w base P u L
  dis : ∀ k, P k → ¬ F k ∧ k ≠ p ∧ base ≤ k ∧ k < w.heap.size
  lo : base ≤ p
theorem Ref.call {base : Nat} {w w' : World} {F F' : Nat → Prop} {p : Nat} {s : ByteArray} {u : Value} {P : Nat → Prop} {L : List S31} {d : Nat} {v : Int} (h : Ref base w F p s u P L d v) (hf : ∀ k, F' k → F k ∨ w.heap.size ≤ k) (hd : Did w w' F) : Ref base w' F' p s u P L d v :=
  ⟨h.kp.call hf hd, Kd.R_step h.row (fun k hk hlt => hd.block hlt (h.dis k hk).1), fun k hk => ⟨fun hF => (hf k hF).elim (h.dis k hk).1 (fun h' => by have := (h.dis k hk).2.2.2; omega), (h.dis k hk).2.1, (h.dis k hk).2.2.1, Nat.lt_of_lt_of_le (h.dis k hk).2.2.2 hd.size⟩, h.lo⟩
theorem Ref.below {base : Nat} {w w' : World} {F : Nat → Prop} {p : Nat} {s : ByteArray} {u : Value} {P : Nat → Prop} {L : List S31} {d : Nat} {v : Int} (h : Ref base w F p s u P L d v) (hb : Below w.heap.size w w') : Ref base w' F p s u P L d v :=
  ⟨h.kp.below hb, Kd.R_below h.row hb, fun k hk => ⟨(h.dis k hk).1, (h.dis k hk).2.1, (h.dis k hk).2.2.1, Nat.lt_of_lt_of_le (h.dis k hk).2.2.2 hb.size⟩, h.lo⟩
theorem Ref.np {base : Nat} {w : World} {F : Nat → Prop} {p : Nat} {s : ByteArray} {u : Value} {P : Nat → Prop} {L : List S31} {d : Nat} {v : Int} (h : Ref base w F p s u P L d v) : ¬ P p := fun hp => (h.dis p hp).2.1 rfl
/-- The reference's call, in any world. -/
theorem ran_call {w X : World} {P : Nat → Prop} {u : Value} {L L' : List S31} {d d' : Nat} {v v' : Int} {s : ByteArray} {x : S36} {a : S31} {er : Int} (hb : Below w.heap.size w X) (hR : Kd.R k31 31 X w.heap.size P u L) (hrun : emendateref05_Run.f 100 s L d v x.f0 x.f1.f0 x.f1.f1 x.f1.f2 = some (s, L', (d' : Int), v', a.f0, a.f1, a.f2, er)) :
    Calls Try.prog 22 #[.agg #[.string s, u, .int .i64 d, .int .i64 v], .agg #[.int .u8 x.f0, .int .i64 x.f1.f0, .int .i64 x.f1.f1, .string x.f1.f2]] X fun r w' => ∃ (A' : Option Addr) (c' : Nat), r = .returned (.tuple #[.agg #[.string s, .slice A' L'.length c', .int .i64 d', .int .i64 v'], .agg #[.int .i64 a.f0, .int .i64 a.f1, .string a.f2], .int .i64 er]) ∧ Kd.R k31 31 w' w.heap.size (fun k => (P k ∨ X.heap.size ≤ k) ∧ w.heap.size ≤ k ∧ k < w'.heap.size) (.slice A' L'.length c') L' ∧ Did X w' P :=
  (emendateref05_Run.calls 100 s P u L d v x.f0 x.f1.f0 x.f1.f1 x.f1.f2 s L' d' v' a.f0 a.f1 a.f2 er w X hb hR hrun).mono fun r w' ⟨u', h1, h2, h3, h4⟩ => by
    obtain ⟨A', c', rfl⟩ := Kd.R_slice h2
    exact ⟨A', c', h1, Kd.R_mono (Kd.R_bound h2) (fun k hk => ⟨hk.1, hk.2.1, hk.2.2.1⟩), ⟨h4, h3.os.trans hb.os.symm, h3.tape.trans hb.tape.symm, h3.output.trans hb.output.symm⟩⟩
/-- What the statement with the reference's call leaves: a state in q1, an edit in q2. -/
structure Ran (base : Nat) (W wc : World) (P : Nat → Prop) (s : ByteArray) (u : Value) (P' : Nat → Prop) (L : List S31) (d : Nat) (v : Int) (a : S31) (q1 q2 : Nat) : Prop where
  b1 : wc.heap[q1]? = some (.cells #[.string s, u, .int .i64 d, .int .i64 v] 29 (0, 0))
  b2 : wc.heap[q2]? = some (.cells #[.int .i64 a.f0, .int .i64 a.f1, .string a.f2] 31 (0, 0))
  ge1 : W.heap.size ≤ q1
  ge2 : W.heap.size ≤ q2
  ne : q1 ≠ q2
  row : Kd.R k31 31 wc base P' u L
  own : ∀ k, P' k → (P k ∨ W.heap.size ≤ k) ∧ k ≠ q1 ∧ k ≠ q2 ∧ base ≤ k ∧ k < wc.heap.size
  did : Did W wc P
theorem Ran.of {base : Nat} {W w1 wc : World} {P P' : Nat → Prop} {s : ByteArray} {u : Value} {L : List S31} {d : Nat} {v : Int} {a : S31} {q1 q2 N : Nat} (D1 : Did W w1 P) (row : Kd.R k31 31 w1 base P' u L) (D2 : Did w1 wc (fun k => k = q1 ∨ k = q2))
    (hP : ∀ k, P' k → (P k ∨ N ≤ k) ∧ base ≤ k ∧ k < w1.heap.size) (hW : ∀ k, P k → k < W.heap.size) (hN : W.heap.size ≤ N) (i1 : q1 < N ∨ w1.heap.size ≤ q1) (i2 : q2 < N ∨ w1.heap.size ≤ q2)
    (b1 : wc.heap[q1]? = some (.cells #[.string s, u, .int .i64 d, .int .i64 v] 29 (0, 0))) (b2 : wc.heap[q2]? = some (.cells #[.int .i64 a.f0, .int .i64 a.f1, .string a.f2] 31 (0, 0)))
    (ge1 : W.heap.size ≤ q1) (ge2 : W.heap.size ≤ q2) (ne : q1 ≠ q2) : Ran base W wc P s u P' L d v a q1 q2 := by
  have own : ∀ k, P' k → (P k ∨ W.heap.size ≤ k) ∧ k ≠ q1 ∧ k ≠ q2 ∧ base ≤ k ∧ k < w1.heap.size := fun k hk => by
    obtain ⟨h1, h2, h3⟩ := hP k hk
    rcases h1 with h1 | h1
    · have := hW k h1; exact ⟨Or.inl h1, by omega, by omega, h2, h3⟩
    · exact ⟨Or.inr (by omega), by omega, by omega, h2, h3⟩
  exact ⟨b1, b2, ge1, ge2, ne, Kd.R_step row (fun k hk hlt => D2.block hlt (fun h => h.elim (own k hk).2.1 (own k hk).2.2.1)), fun k hk => by
    obtain ⟨h1, h2, h3, h4, h5⟩ := own k hk
    exact ⟨h1, h2, h3, h4, Nat.lt_of_lt_of_le h5 D2.size⟩, D1.then_ D2 (fun k h => Or.inr (by rcases h with rfl | rfl <;> assumption))⟩
theorem t8_set {w' : World} {p : Nat} {ad : Addr} {v0 v1 v2 v3 v4 v5 v6 v7 : Value} {q j : Nat} {z : Value} (h1 : p ≠ q ∧ ad.block ≠ q) (h : w'.cell? ⟨p, 0, none⟩ = some v0 ∧ w'.cell? ⟨p, 1, none⟩ = some v1 ∧ w'.cell? ⟨p, 2, none⟩ = some v2 ∧ w'.cell? ⟨p, 3, none⟩ = some v3 ∧ w'.cell? ad = some v4 ∧ w'.cell? ⟨ad.block, ad.off + 1, none⟩ = some v5 ∧ w'.cell? ⟨ad.block, ad.off + 2, none⟩ = some v6 ∧ w'.cell? ⟨ad.block, ad.off + 3, none⟩ = some v7) : (w'.setCell ⟨q, j, none⟩ z).cell? ⟨p, 0, none⟩ = some v0 ∧ (w'.setCell ⟨q, j, none⟩ z).cell? ⟨p, 1, none⟩ = some v1 ∧ (w'.setCell ⟨q, j, none⟩ z).cell? ⟨p, 2, none⟩ = some v2 ∧ (w'.setCell ⟨q, j, none⟩ z).cell? ⟨p, 3, none⟩ = some v3 ∧ (w'.setCell ⟨q, j, none⟩ z).cell? ad = some v4 ∧ (w'.setCell ⟨q, j, none⟩ z).cell? ⟨ad.block, ad.off + 1, none⟩ = some v5 ∧ (w'.setCell ⟨q, j, none⟩ z).cell? ⟨ad.block, ad.off + 2, none⟩ = some v6 ∧ (w'.setCell ⟨q, j, none⟩ z).cell? ⟨ad.block, ad.off + 3, none⟩ = some v7 := by
  have k := fun (a : Addr) (ha : a.block ≠ q) => World.cell?_setCell_other (w := w') (a := ⟨q, j, none⟩) (b := a) (v := z) (fun h => ha (by rw [← h]))
  obtain ⟨g0, g1, g2, g3, g4, g5, g6, g7⟩ := h
  exact ⟨(k ⟨p, 0, none⟩ h1.1).trans g0, (k ⟨p, 1, none⟩ h1.1).trans g1, (k ⟨p, 2, none⟩ h1.1).trans g2, (k ⟨p, 3, none⟩ h1.1).trans g3, (k ad h1.2).trans g4, (k ⟨ad.block, ad.off + 1, none⟩ h1.2).trans g5, (k ⟨ad.block, ad.off + 2, none⟩ h1.2).trans g6, (k ⟨ad.block, ad.off + 3, none⟩ h1.2).trans g7⟩
theorem t8_alloc {w' : World} {p : Nat} {ad : Addr} {v0 v1 v2 v3 v4 v5 v6 v7 : Value} {o : Obj} (h : w'.cell? ⟨p, 0, none⟩ = some v0 ∧ w'.cell? ⟨p, 1, none⟩ = some v1 ∧ w'.cell? ⟨p, 2, none⟩ = some v2 ∧ w'.cell? ⟨p, 3, none⟩ = some v3 ∧ w'.cell? ad = some v4 ∧ w'.cell? ⟨ad.block, ad.off + 1, none⟩ = some v5 ∧ w'.cell? ⟨ad.block, ad.off + 2, none⟩ = some v6 ∧ w'.cell? ⟨ad.block, ad.off + 3, none⟩ = some v7) : (w'.alloc o).cell? ⟨p, 0, none⟩ = some v0 ∧ (w'.alloc o).cell? ⟨p, 1, none⟩ = some v1 ∧ (w'.alloc o).cell? ⟨p, 2, none⟩ = some v2 ∧ (w'.alloc o).cell? ⟨p, 3, none⟩ = some v3 ∧ (w'.alloc o).cell? ad = some v4 ∧ (w'.alloc o).cell? ⟨ad.block, ad.off + 1, none⟩ = some v5 ∧ (w'.alloc o).cell? ⟨ad.block, ad.off + 2, none⟩ = some v6 ∧ (w'.alloc o).cell? ⟨ad.block, ad.off + 3, none⟩ = some v7 := by
  have k := fun (a : Addr) (v : Value) (ha : w'.cell? a = some v) => World.cell?_alloc_some w' a o (by rw [ha]; rfl)
  obtain ⟨g0, g1, g2, g3, g4, g5, g6, g7⟩ := h
  exact ⟨(k _ _ g0).trans g0, (k _ _ g1).trans g1, (k _ _ g2).trans g2, (k _ _ g3).trans g3, (k _ _ g4).trans g4, (k _ _ g5).trans g5, (k _ _ g6).trans g6, (k _ _ g7).trans g7⟩
theorem t8_drew {w' : World} {p : Nat} {ad : Addr} {v0 v1 v2 v3 v4 v5 v6 v7 : Value} (h : w'.cell? ⟨p, 0, none⟩ = some v0 ∧ w'.cell? ⟨p, 1, none⟩ = some v1 ∧ w'.cell? ⟨p, 2, none⟩ = some v2 ∧ w'.cell? ⟨p, 3, none⟩ = some v3 ∧ w'.cell? ad = some v4 ∧ w'.cell? ⟨ad.block, ad.off + 1, none⟩ = some v5 ∧ w'.cell? ⟨ad.block, ad.off + 2, none⟩ = some v6 ∧ w'.cell? ⟨ad.block, ad.off + 3, none⟩ = some v7) : w'.drew.cell? ⟨p, 0, none⟩ = some v0 ∧ w'.drew.cell? ⟨p, 1, none⟩ = some v1 ∧ w'.drew.cell? ⟨p, 2, none⟩ = some v2 ∧ w'.drew.cell? ⟨p, 3, none⟩ = some v3 ∧ w'.drew.cell? ad = some v4 ∧ w'.drew.cell? ⟨ad.block, ad.off + 1, none⟩ = some v5 ∧ w'.drew.cell? ⟨ad.block, ad.off + 2, none⟩ = some v6 ∧ w'.drew.cell? ⟨ad.block, ad.off + 3, none⟩ = some v7 := h


theorem St.past {w0 w w' : World} {g : Nat} {F P : Nat → Prop} {m : M} (h : St w0 w g F m) (hd : Did w w' P) (hdis : ∀ k, F k → ¬ P k) (hP : ∀ k, P k → w0.heap.size ≤ k) : St w0 w' g F m :=
  ⟨Hist.keep h.hist (fun k hk => hd.block (h.hist.lt k hk).2 (hdis k hk)) hd.size, h.bel.trans (hd.below h.bel.size hP)⟩
theorem Ran.ref {base : Nat} {W wc wd : World} {F : Nat → Prop} {p : Nat} {s : ByteArray} {u u' : Value} {P P' : Nat → Prop} {L L' : List S31} {d d' : Nat} {v v' : Int} {a : S31} {q1 q2 : Nat} (h : Ref base W F p s u P L d v) (r : Ran base W wc P s u' P' L' d' v' a q1 q2) (hF : ∀ k, F k → k < W.heap.size) (hd : Did wc wd (fun k => k = p))
    (hb : wd.heap[p]? = some (.cells #[.string s, u', .int .i64 d', .int .i64 v'] 29)) : Ref base wd F p s u' P' L' d' v' := by
  have hp := blk_lt h.kp.blk
  have ho : ∀ k, P' k → ¬ F k ∧ k ≠ p := fun k hk => by
    rcases (r.own k hk).1 with h1 | h1
    · exact ⟨(h.dis k h1).1, (h.dis k h1).2.1⟩
    · exact ⟨fun hf => by have := hF k hf; omega, by omega⟩
  exact ⟨⟨hb, h.kp.out⟩, Kd.R_step r.row (fun k hk hlt => hd.block hlt (ho k hk).2), fun k hk => ⟨(ho k hk).1, (ho k hk).2, (r.own k hk).2.2.2.1, Nat.lt_of_lt_of_le (r.own k hk).2.2.2.2 hd.size⟩, h.lo⟩
theorem depth_sim {w0 w : World} {g : Nat} {F : Nat → Prop} {m : M} {s : ByteArray} {L : List S31} {d : Nat} (h : St w0 w g F m) (hs : Sim s m L d) : Calls Try.prog 23 #[.pointer (some ⟨g, 0, none⟩)] w fun r w' => r = .returned (.tuple #[.int .i64 (d : Int), .int .i64 ((L.length : Int) - d)]) ∧ Below w.heap.size w w' := by
  have h1 : m.un.length = d := by rw [hs.un, List.length_reverse, invList_length, List.length_take]; have := hs.le; omega
  have h2 : (m.re.length : Int) = (L.length : Int) - d := by rw [hs.re, List.length_drop]; have := hs.le; omega
  have := depth_st h
  rw [h1, h2] at this
  exact this
theorem rtext_call {w : World} {s : ByteArray} {A : Option Addr} {c : Nat} {L : List S31} {d : Nat} {m : M} (v : Int) {base : Nat} {P : Nat → Prop} (hs : Sim s m L d) (hR : Kd.R k31 31 w base P (.slice A L.length c) L) : Calls Try.prog 25 #[.agg #[.string s, .slice A L.length c, .int .i64 d, .int .i64 v]] w fun r w' => r = .returned (.string m.t) ∧ Below w.heap.size w w' := by
  obtain ⟨h1, h2, h3⟩ := Kd.R_reads' hR
  exact emendateref05_Text.calls 100 s A c L d v m.t w h3 h2 (text_ref v hs.few hs.le (by have := hs.le; have := hs.few; omega) hs.small hs.text)

attribute [local go_sem high] eqA31
set_option maxRecDepth 100000 in
set_option maxHeartbeats 6400000 in
theorem history_walk (s : ByteArray) (A : Option Addr) (c : Nat) (l : List S36) (w : World) (hs : s.size ≤ 140737488351232) (hr : Kd.C k36 w A l.length l) (hc : l.length ≤ c) (ho : ∀ x ∈ l, OkS x) (hy : l.length * 40 ≤ 140737488351232) :
    Calls Try.prog 3 #[.string s, .slice A l.length c] w fun r w' => r = .returned (.bool true) ∧ Below w.heap.size w w' := by
  have HR := Aside0.mk hr
  have HC := Aside0.mk hc
  have HO := Aside0.mk ho
  have HY := Aside0.mk hy
  clear hr hc ho hy
  by_cases hf : FewS s l
  · have HF := Aside0.mk hf
    have hl30 := hf.1
    clear hf
    go_enter Try.func3, Try.ntmps3
    go_wp2_with fail
    refine (awake_any w).mono ?_
    rintro r w1 ⟨rfl, hb⟩
    have B1 := Aside0.mk hb
    clear hb
    go_wp2_with fail
    refine (few_yes s A c l w1 hs (Kd.C_below HR.out B1.out) HC.out HO.out HY.out HF.out).mono ?_
    rintro r w2 ⟨rfl, hb⟩
    have B2 := Aside0.mk (B1.out.trans (hb.mono B1.out.size))
    clear hb B1
    go_wp2_with fail
    refine (new_st s B2.out).mono ?_
    rintro r w3 ⟨g, F, rfl, hst, -, -, -⟩
    have S3 := Aside0.mk hst
    clear hst B2
    go_wp2_with fail
    have R0 : Aside0 (Ref w.heap.size (w3.alloc (.cells #[.string s, .slice none 0 0, .int .i64 0, .int .i64 0] 29)) F w3.heap.size s (.slice none 0 0) (fun _ => False) [] 0 0) :=
      ⟨⟨Kp.new S3.out _, Kd.R_nil _ _ _ _ _, fun k hk => hk.elim, S3.out.bel.size⟩⟩
    have I0 : Aside0 (Inv s l w (w3.alloc (.cells #[.string s, .slice none 0 0, .int .i64 0, .int .i64 0] 29)) g F ⟨s, 0, [], []⟩ 0) := ⟨(Inv.start S3.out HF.out).below (below_new _ _)⟩
    clear S3
    go_loopg [7] l.length (fun kq v7 wr => ∃ (x : Int) (F P : Nat → Prop) (m : M) (u : Value) (L : List S31) (d : Nat), v7 = .int .i64 x ∧ Aside0 (0 ≤ x ∧ x + kq = l.length ∧ Inv s l w wr g F m x.toNat ∧ Ref w.heap.size wr F w3.heap.size s u P L d m.v ∧ Sim s m L d ∧ L.length ≤ x.toNat ∧ s.size + sz L + szS (l.drop x.toNat) ≤ 20000))
    case atStart => exact ⟨0, F, _, _, _, [], 0, rfl, ⟨Int.le_refl _, by omega, I0.out, R0.out, Sim.start s (by have := HF.out.2; omega), Nat.le_refl _, by have := HF.out.2; simp only [sz, Int.toNat_zero, List.drop_zero]; omega⟩⟩
    case round =>
      clear I0 R0 F
      obtain ⟨x, F, P, m, u, L, d, rfl, HA⟩ := hrel
      obtain ⟨hx0, hxk, hI, hRf, hS, hLx, hz⟩ := HA.out
      clear HA
      cases gk with
      | zero =>
        have hd : decide (x < (l.length : Int)) = false := decide_eq_false (by omega)
        have IR := Aside0.mk hI
        have RF := Aside0.mk hRf
        have SM := Aside0.mk hS
        clear hI hRf hS hLx hz hxk hx0
        obtain ⟨A', c', rfl⟩ := Kd.R_slice RF.out.row
        have z6 : wr.cell? ⟨w3.heap.size, 0, none⟩ = some (.string s) := (blk_cell RF.out.kp.blk 0).trans rfl
        have z7 : wr.cell? ⟨w3.heap.size, 1, none⟩ = some (.slice A' L.length c') := (blk_cell RF.out.kp.blk 1).trans rfl
        have z8 : wr.cell? ⟨w3.heap.size, 2, none⟩ = some (.int .i64 (d : Int)) := (blk_cell RF.out.kp.blk 2).trans rfl
        have z9 : wr.cell? ⟨w3.heap.size, 3, none⟩ = some (.int .i64 m.v) := (blk_cell RF.out.kp.blk 3).trans rfl
        have S7 := Aside0.mk (IR.out.st.below ((Below.refl _ _).drew))
        have R7 := Aside0.mk (RF.out.below ((Below.refl _ _).drew))
        go_wp2_with fail
        go_region_held3 (fun w' => w'.cell? ⟨w3.heap.size, 0, none⟩ = some (.string s) ∧ w'.cell? ⟨w3.heap.size, 1, none⟩ = some (.slice A' L.length c') ∧ w'.cell? ⟨w3.heap.size, 2, none⟩ = some (.int .i64 (d : Int)) ∧ w'.cell? ⟨w3.heap.size, 3, none⟩ = some (.int .i64 m.v))
          (first | exact ⟨k0, k1, k2, k3⟩ | exact ⟨z6, z7, z8, z9⟩ | go_keep)
          (first
          | (go_at_call 24; (with_reducible refine (text_st S7.out m.t rfl).mono ?_); rintro r w7 ⟨rfl, rfl⟩)
          | (go_at_call 25; (with_reducible refine (rtext_call m.v SM.out R7.out.row).mono ?_); rintro r w8 ⟨rfl, hb8⟩; have R8 := Aside0.mk (R7.out.below hb8); have S8 := Aside0.mk (S7.out.below hb8); clear hb8; have k0 := (blk_cell R8.out.kp.blk 0).trans rfl; have k1 := (blk_cell R8.out.kp.blk 1).trans rfl; have k2 := (blk_cell R8.out.kp.blk 2).trans rfl; have k3 := (blk_cell R8.out.kp.blk 3).trans rfl))
        go_wp2
        go_ret
        exact ⟨by simp, S8.out.bel⟩
      | succ k1 =>
        have hlt : x.toNat < l.length := by omega
        have hd : decide (x < (l.length : Int)) = true := decide_eq_true (by omega)
        have p1 : 0 ≤ x := hx0
        have q1 : x < (l.length : Int) := by omega
        obtain ⟨ad, eA, y0, y1, y2, y3⟩ := at_T36 HR.out x p1 q1
        cases eA
        have hxe : rd_T36 l x = l[x.toNat] := by
          have := rd36 hlt
          rw [Int.toNat_of_nonneg hx0] at this
          exact this
        have hok := HO.out _ (List.getElem_mem hlt)
        rw [← hxe] at hok
        have hu := hok.1
        simp only [Lit.wf, IntKind.min, IntKind.max, IntKind.signed, IntKind.bits] at hu
        have hu0 : 0 ≤ (rd_T36 l x).f0 := by revert hu; simp; omega
        have hdr : l.drop x.toNat = l[x.toNat] :: l.drop (x.toNat + 1) := List.drop_eq_getElem_cons hlt
        rw [hdr] at hz
        simp only [szS] at hz
        rw [← hxe] at hz
        obtain ⟨m', a, er, hst⟩ : ∃ m' a er, stepM m (rd_T36 l x) = (m', a, er) := ⟨_, _, _, rfl⟩
        have hv0 := hI.sm.h0
        have hv1 := hI.sm.h1
        obtain ⟨L', d', hrun, hS', hz', hL'⟩ := run_sim (k := 100) hS hI.gd (by have := hS.le; omega) (by omega) hv0 (by omega) (by omega) hu0 hst
        have hB := hI.st.bel
        have Y := Aside0.mk (And.intro y0 (And.intro y1 (And.intro y2 y3)))
        replace y0 := (hB.cell (World.block_lt_of_cell? w _ y0)).trans y0
        replace y1 := (hB.cell (World.block_lt_of_cell? w _ y1)).trans y1
        replace y2 := (hB.cell (World.block_lt_of_cell? w _ y2)).trans y2
        replace y3 := (hB.cell (World.block_lt_of_cell? w _ y3)).trans y3
        have HW : Aside0 (wrap64 (x + 1) = x + 1) := ⟨w64 (by omega) (by omega)⟩
        have HX := Aside0.mk hxe
        rw [hxe] at hst
        have HST := Aside0.mk hst
        have HI := Aside0.mk hI
        have HRF := Aside0.mk hRf
        have HS' := Aside0.mk hS'
        have HRN := Aside0.mk hrun
        have HZ : Aside0 (s.size + sz L' + szS (l.drop (x.toNat + 1)) ≤ 20000) := ⟨by omega⟩
        have HL : Aside0 (L'.length ≤ x.toNat + 1) := ⟨by omega⟩
        have HK := Aside0.mk hxk
        have HX0 := Aside0.mk hx0
        clear hok hu hdr hz hst hv0 hv1 hS hrun hS' hz' hL' hLx hB hxe hI hRf hxk hx0 hu0
        replace p1 := eq_true p1
        replace q1 := eq_true q1
        go_wp2_with fail
        refine (run_inv HI.out hlt HF.out.1 HO.out HST.out (rd_T36 l x) HX.out).mono ?_
        rintro r w4 ⟨rfl, F', hI', hf', hd'⟩
        have I5 := Aside0.mk (hI'.below (below_new w4 (.cells #[.int .i64 a.f0, .int .i64 a.f1, .string a.f2] 31)))
        have RF := Aside0.mk ((HRF.out.call hf' hd').below (below_new w4 (.cells #[.int .i64 a.f0, .int .i64 a.f1, .string a.f2] 31)))
        have N8 : Aside0 (¬ P w4.heap.size) := ⟨fun h => by have := ((HRF.out.call hf' hd').dis _ h).2.2.2; omega⟩
        have K8 := Aside0.mk (Kp.new hI'.st (.cells #[.int .i64 a.f0, .int .i64 a.f1, .string a.f2] 31))
        clear hI' hf' hd' y0 y1 y2 y3
        go_wp2_with fail
        generalize w4.alloc (.cells #[.int .i64 a.f0, .int .i64 a.f1, .string a.f2] 31) = W at I5 RF K8 ⊢
        have BW := Aside0.mk I5.out.st.bel
        have y0 := (BW.out.cell (World.block_lt_of_cell? w _ Y.out.1)).trans Y.out.1
        have y1 := (BW.out.cell (World.block_lt_of_cell? w _ Y.out.2.1)).trans Y.out.2.1
        have y2 := (BW.out.cell (World.block_lt_of_cell? w _ Y.out.2.2.1)).trans Y.out.2.2.1
        have y3 := (BW.out.cell (World.block_lt_of_cell? w _ Y.out.2.2.2)).trans Y.out.2.2.2
        have c0 : W.cell? ⟨w3.heap.size, 0, none⟩ = some (.string s) := (blk_cell RF.out.kp.blk 0).trans rfl
        have c1 : W.cell? ⟨w3.heap.size, 1, none⟩ = some u := (blk_cell RF.out.kp.blk 1).trans rfl
        have c2 : W.cell? ⟨w3.heap.size, 2, none⟩ = some (.int .i64 (d : Int)) := (blk_cell RF.out.kp.blk 2).trans rfl
        have c3 : W.cell? ⟨w3.heap.size, 3, none⟩ = some (.int .i64 m.v) := (blk_cell RF.out.kp.blk 3).trans rfl
        have NE : Aside0 (∀ q, W.heap.size ≤ q → w3.heap.size ≠ q ∧ (ad.add (x.toNat * 4)).block ≠ q) := ⟨fun q hq => ⟨by have := blk_lt RF.out.kp.blk; omega, by have := World.block_lt_of_cell? _ _ y0; omega⟩⟩
        go_cut [10, 11, 12] (fun v10 v11 v12 wc => ∃ (q1 q2 : Nat) (A' : Option Addr) (c' : Nat) (P' : Nat → Prop), v10 = .pointer (some ⟨q1, 0, none⟩) ∧ v11 = .pointer (some ⟨q2, 0, none⟩) ∧ v12 = .int .i64 er ∧ Aside0 (Ran w.heap.size W wc P s (.slice A' L'.length c') P' L' d' m'.v a q1 q2))
        case first =>
          go_region_held3 (fun w' => w'.cell? ⟨w3.heap.size, 0, none⟩ = some (.string s) ∧ w'.cell? ⟨w3.heap.size, 1, none⟩ = some u ∧ w'.cell? ⟨w3.heap.size, 2, none⟩ = some (.int .i64 (d : Int)) ∧ w'.cell? ⟨w3.heap.size, 3, none⟩ = some (.int .i64 m.v) ∧ w'.cell? (ad.add (x.toNat * 4)) = some (.int .u8 (rd_T36 l x).f0) ∧ w'.cell? ⟨(ad.add (x.toNat * 4)).block, (ad.add (x.toNat * 4)).off + 1, none⟩ = some (.int .i64 (rd_T36 l x).f1.f0) ∧ w'.cell? ⟨(ad.add (x.toNat * 4)).block, (ad.add (x.toNat * 4)).off + 2, none⟩ = some (.int .i64 (rd_T36 l x).f1.f1) ∧ w'.cell? ⟨(ad.add (x.toNat * 4)).block, (ad.add (x.toNat * 4)).off + 3, none⟩ = some (.string (rd_T36 l x).f1.f2))
            (repeat (first | with_reducible exact ⟨k0, k1, k2, k3, k4, k5, k6, k7⟩ | with_reducible exact ⟨c0, c1, c2, c3, y0, y1, y2, y3⟩ | with_reducible refine t8_alloc ?_ | with_reducible refine t8_drew ?_ | with_reducible refine t8_set (NE.out _ (by first | exact Nat.le_refl _ | exact Nat.le_succ _ | exact D1.out.size | (have := D1.out.size; omega))) ?_))
            (first
            | (go_at_call 22; (with_reducible refine (ran_call (w := w) (X := W.drew) (P := P) (u := u) (L := L) (d := d) (v := m.v) (s := s) (x := rd_T36 l x) (BW.out.trans (((Did.refl W (fun _ => False)).drew.below (B := w.heap.size) BW.out.size (fun _ h => h.elim)))) (Kd.R_step RF.out.row (fun k _ hlt => ((Did.refl W (fun _ => False)).drew).block hlt id)) HRN.out).mono ?_); rintro r w5 ⟨A', c', rfl, hrw, hdid⟩; have R1 := Aside0.mk hrw; have D1 : Aside0 (Did W w5 P) := ⟨((Did.refl W P).drew).then_ hdid (fun _ h => Or.inl h)⟩; clear hrw hdid; have BP := Aside0.mk (blk_kept RF.out.kp.blk D1.out.kept RF.out.np); have BL : Aside0 (Below w.heap.size w w5) := ⟨BW.out.trans (D1.out.below (B := w.heap.size) BW.out.size (fun k hk => (RF.out.dis k hk).2.2.1))⟩; have k0 : w5.cell? ⟨w3.heap.size, 0, none⟩ = some (.string s) := (blk_cell BP.out 0).trans rfl; have k1 : w5.cell? ⟨w3.heap.size, 1, none⟩ = some (u) := (blk_cell BP.out 1).trans rfl; have k2 : w5.cell? ⟨w3.heap.size, 2, none⟩ = some (.int .i64 (d : Int)) := (blk_cell BP.out 2).trans rfl; have k3 : w5.cell? ⟨w3.heap.size, 3, none⟩ = some (.int .i64 m.v) := (blk_cell BP.out 3).trans rfl; have k4 : w5.cell? (ad.add (x.toNat * 4)) = some (.int .u8 (rd_T36 l x).f0) := (BL.out.cell (World.block_lt_of_cell? w _ Y.out.1)).trans Y.out.1; have k5 : w5.cell? ⟨(ad.add (x.toNat * 4)).block, (ad.add (x.toNat * 4)).off + 1, none⟩ = some (.int .i64 (rd_T36 l x).f1.f0) := (BL.out.cell (World.block_lt_of_cell? w _ Y.out.2.1)).trans Y.out.2.1; have k6 : w5.cell? ⟨(ad.add (x.toNat * 4)).block, (ad.add (x.toNat * 4)).off + 2, none⟩ = some (.int .i64 (rd_T36 l x).f1.f1) := (BL.out.cell (World.block_lt_of_cell? w _ Y.out.2.2.1)).trans Y.out.2.2.1; have k7 : w5.cell? ⟨(ad.add (x.toNat * 4)).block, (ad.add (x.toNat * 4)).off + 3, none⟩ = some (.string (rd_T36 l x).f1.f2) := (BL.out.cell (World.block_lt_of_cell? w _ Y.out.2.2.2)).trans Y.out.2.2.2)
            | (go_at_call 22; (with_reducible refine (ran_call (w := w) (X := (W.alloc (.cells #[.string ⟨#[]⟩, .slice none 0 0, .int .i64 0, .int .i64 0] 29)).drew) (P := P) (u := u) (L := L) (d := d) (v := m.v) (s := s) (x := rd_T36 l x) (BW.out.trans ((((Did.refl W (fun _ => False)).alloc _).drew.below (B := w.heap.size) BW.out.size (fun _ h => h.elim)))) (Kd.R_step RF.out.row (fun k _ hlt => (((Did.refl W (fun _ => False)).alloc _).drew).block hlt id)) HRN.out).mono ?_); rintro r w5 ⟨A', c', rfl, hrw, hdid⟩; have R1 := Aside0.mk hrw; have D1 : Aside0 (Did W w5 P) := ⟨(((Did.refl W P).alloc _).drew).then_ hdid (fun _ h => Or.inl h)⟩; have E1 : Aside0 (w5.heap[W.heap.size]? = some (.cells #[.string ⟨#[]⟩, .slice none 0 0, .int .i64 0, .int .i64 0] 29 (0, 0))) := ⟨blk_kept (blk_drew (blk_new W _)) hdid.kept (fun h => by have := (RF.out.dis _ h).2.2.2; omega)⟩; have esl : W.heap.size < w5.heap.size := blk_lt E1.out; have es0 : w5.cell? ⟨W.heap.size, 0, none⟩ = some (.string ⟨#[]⟩) := (blk_cell E1.out 0).trans rfl; have esf0 := blk_frozen E1.out 0; have es1 : w5.cell? ⟨W.heap.size, 1, none⟩ = some (.slice none 0 0) := (blk_cell E1.out 1).trans rfl; have esf1 := blk_frozen E1.out 1; have es2 : w5.cell? ⟨W.heap.size, 2, none⟩ = some (.int .i64 0) := (blk_cell E1.out 2).trans rfl; have esf2 := blk_frozen E1.out 2; have es3 : w5.cell? ⟨W.heap.size, 3, none⟩ = some (.int .i64 0) := (blk_cell E1.out 3).trans rfl; have esf3 := blk_frozen E1.out 3; clear hrw hdid; have BP := Aside0.mk (blk_kept RF.out.kp.blk D1.out.kept RF.out.np); have BL : Aside0 (Below w.heap.size w w5) := ⟨BW.out.trans (D1.out.below (B := w.heap.size) BW.out.size (fun k hk => (RF.out.dis k hk).2.2.1))⟩; have k0 : w5.cell? ⟨w3.heap.size, 0, none⟩ = some (.string s) := (blk_cell BP.out 0).trans rfl; have k1 : w5.cell? ⟨w3.heap.size, 1, none⟩ = some (u) := (blk_cell BP.out 1).trans rfl; have k2 : w5.cell? ⟨w3.heap.size, 2, none⟩ = some (.int .i64 (d : Int)) := (blk_cell BP.out 2).trans rfl; have k3 : w5.cell? ⟨w3.heap.size, 3, none⟩ = some (.int .i64 m.v) := (blk_cell BP.out 3).trans rfl; have k4 : w5.cell? (ad.add (x.toNat * 4)) = some (.int .u8 (rd_T36 l x).f0) := (BL.out.cell (World.block_lt_of_cell? w _ Y.out.1)).trans Y.out.1; have k5 : w5.cell? ⟨(ad.add (x.toNat * 4)).block, (ad.add (x.toNat * 4)).off + 1, none⟩ = some (.int .i64 (rd_T36 l x).f1.f0) := (BL.out.cell (World.block_lt_of_cell? w _ Y.out.2.1)).trans Y.out.2.1; have k6 : w5.cell? ⟨(ad.add (x.toNat * 4)).block, (ad.add (x.toNat * 4)).off + 2, none⟩ = some (.int .i64 (rd_T36 l x).f1.f1) := (BL.out.cell (World.block_lt_of_cell? w _ Y.out.2.2.1)).trans Y.out.2.2.1; have k7 : w5.cell? ⟨(ad.add (x.toNat * 4)).block, (ad.add (x.toNat * 4)).off + 3, none⟩ = some (.string (rd_T36 l x).f1.f2) := (BL.out.cell (World.block_lt_of_cell? w _ Y.out.2.2.2)).trans Y.out.2.2.2)
            | (go_at_call 22; (with_reducible refine (ran_call (w := w) (X := (W.alloc (.cells #[.int .i64 0, .int .i64 0, .string ⟨#[]⟩] 31)).drew) (P := P) (u := u) (L := L) (d := d) (v := m.v) (s := s) (x := rd_T36 l x) (BW.out.trans ((((Did.refl W (fun _ => False)).alloc _).drew.below (B := w.heap.size) BW.out.size (fun _ h => h.elim)))) (Kd.R_step RF.out.row (fun k _ hlt => (((Did.refl W (fun _ => False)).alloc _).drew).block hlt id)) HRN.out).mono ?_); rintro r w5 ⟨A', c', rfl, hrw, hdid⟩; have R1 := Aside0.mk hrw; have D1 : Aside0 (Did W w5 P) := ⟨(((Did.refl W P).alloc _).drew).then_ hdid (fun _ h => Or.inl h)⟩; have E2 : Aside0 (w5.heap[W.heap.size]? = some (.cells #[.int .i64 0, .int .i64 0, .string ⟨#[]⟩] 31 (0, 0))) := ⟨blk_kept (blk_drew (blk_new W _)) hdid.kept (fun h => by have := (RF.out.dis _ h).2.2.2; omega)⟩; have eal : W.heap.size < w5.heap.size := blk_lt E2.out; have ea0 : w5.cell? ⟨W.heap.size, 0, none⟩ = some (.int .i64 0) := (blk_cell E2.out 0).trans rfl; have eaf0 := blk_frozen E2.out 0; have ea1 : w5.cell? ⟨W.heap.size, 1, none⟩ = some (.int .i64 0) := (blk_cell E2.out 1).trans rfl; have eaf1 := blk_frozen E2.out 1; have ea2 : w5.cell? ⟨W.heap.size, 2, none⟩ = some (.string ⟨#[]⟩) := (blk_cell E2.out 2).trans rfl; have eaf2 := blk_frozen E2.out 2; clear hrw hdid; have BP := Aside0.mk (blk_kept RF.out.kp.blk D1.out.kept RF.out.np); have BL : Aside0 (Below w.heap.size w w5) := ⟨BW.out.trans (D1.out.below (B := w.heap.size) BW.out.size (fun k hk => (RF.out.dis k hk).2.2.1))⟩; have k0 : w5.cell? ⟨w3.heap.size, 0, none⟩ = some (.string s) := (blk_cell BP.out 0).trans rfl; have k1 : w5.cell? ⟨w3.heap.size, 1, none⟩ = some (u) := (blk_cell BP.out 1).trans rfl; have k2 : w5.cell? ⟨w3.heap.size, 2, none⟩ = some (.int .i64 (d : Int)) := (blk_cell BP.out 2).trans rfl; have k3 : w5.cell? ⟨w3.heap.size, 3, none⟩ = some (.int .i64 m.v) := (blk_cell BP.out 3).trans rfl; have k4 : w5.cell? (ad.add (x.toNat * 4)) = some (.int .u8 (rd_T36 l x).f0) := (BL.out.cell (World.block_lt_of_cell? w _ Y.out.1)).trans Y.out.1; have k5 : w5.cell? ⟨(ad.add (x.toNat * 4)).block, (ad.add (x.toNat * 4)).off + 1, none⟩ = some (.int .i64 (rd_T36 l x).f1.f0) := (BL.out.cell (World.block_lt_of_cell? w _ Y.out.2.1)).trans Y.out.2.1; have k6 : w5.cell? ⟨(ad.add (x.toNat * 4)).block, (ad.add (x.toNat * 4)).off + 2, none⟩ = some (.int .i64 (rd_T36 l x).f1.f1) := (BL.out.cell (World.block_lt_of_cell? w _ Y.out.2.2.1)).trans Y.out.2.2.1; have k7 : w5.cell? ⟨(ad.add (x.toNat * 4)).block, (ad.add (x.toNat * 4)).off + 3, none⟩ = some (.string (rd_T36 l x).f1.f2) := (BL.out.cell (World.block_lt_of_cell? w _ Y.out.2.2.2)).trans Y.out.2.2.2)
            | (go_at_call 22; (with_reducible refine (ran_call (w := w) (X := ((W.alloc (.cells #[.string ⟨#[]⟩, .slice none 0 0, .int .i64 0, .int .i64 0] 29)).alloc (.cells #[.int .i64 0, .int .i64 0, .string ⟨#[]⟩] 31)).drew) (P := P) (u := u) (L := L) (d := d) (v := m.v) (s := s) (x := rd_T36 l x) (BW.out.trans (((((Did.refl W (fun _ => False)).alloc _).alloc _).drew.below (B := w.heap.size) BW.out.size (fun _ h => h.elim)))) (Kd.R_step RF.out.row (fun k _ hlt => ((((Did.refl W (fun _ => False)).alloc _).alloc _).drew).block hlt id)) HRN.out).mono ?_); rintro r w5 ⟨A', c', rfl, hrw, hdid⟩; have R1 := Aside0.mk hrw; have D1 : Aside0 (Did W w5 P) := ⟨((((Did.refl W P).alloc _).alloc _).drew).then_ hdid (fun _ h => Or.inl h)⟩; have E1 : Aside0 (w5.heap[W.heap.size]? = some (.cells #[.string ⟨#[]⟩, .slice none 0 0, .int .i64 0, .int .i64 0] 29 (0, 0))) := ⟨blk_kept (blk_drew (blk_alloc (blk_new W _) _)) hdid.kept (fun h => by have := (RF.out.dis _ h).2.2.2; omega)⟩; have esl : W.heap.size < w5.heap.size := blk_lt E1.out; have es0 : w5.cell? ⟨W.heap.size, 0, none⟩ = some (.string ⟨#[]⟩) := (blk_cell E1.out 0).trans rfl; have esf0 := blk_frozen E1.out 0; have es1 : w5.cell? ⟨W.heap.size, 1, none⟩ = some (.slice none 0 0) := (blk_cell E1.out 1).trans rfl; have esf1 := blk_frozen E1.out 1; have es2 : w5.cell? ⟨W.heap.size, 2, none⟩ = some (.int .i64 0) := (blk_cell E1.out 2).trans rfl; have esf2 := blk_frozen E1.out 2; have es3 : w5.cell? ⟨W.heap.size, 3, none⟩ = some (.int .i64 0) := (blk_cell E1.out 3).trans rfl; have esf3 := blk_frozen E1.out 3; have E2 : Aside0 (w5.heap[(W.heap.size + 1)]? = some (.cells #[.int .i64 0, .int .i64 0, .string ⟨#[]⟩] 31 (0, 0))) := ⟨blk_kept (blk_drew (by simpa using blk_new (W.alloc _) _)) hdid.kept (fun h => by have := (RF.out.dis _ h).2.2.2; omega)⟩; have eal : (W.heap.size + 1) < w5.heap.size := blk_lt E2.out; have ea0 : w5.cell? ⟨(W.heap.size + 1), 0, none⟩ = some (.int .i64 0) := (blk_cell E2.out 0).trans rfl; have eaf0 := blk_frozen E2.out 0; have ea1 : w5.cell? ⟨(W.heap.size + 1), 1, none⟩ = some (.int .i64 0) := (blk_cell E2.out 1).trans rfl; have eaf1 := blk_frozen E2.out 1; have ea2 : w5.cell? ⟨(W.heap.size + 1), 2, none⟩ = some (.string ⟨#[]⟩) := (blk_cell E2.out 2).trans rfl; have eaf2 := blk_frozen E2.out 2; clear hrw hdid; have BP := Aside0.mk (blk_kept RF.out.kp.blk D1.out.kept RF.out.np); have BL : Aside0 (Below w.heap.size w w5) := ⟨BW.out.trans (D1.out.below (B := w.heap.size) BW.out.size (fun k hk => (RF.out.dis k hk).2.2.1))⟩; have k0 : w5.cell? ⟨w3.heap.size, 0, none⟩ = some (.string s) := (blk_cell BP.out 0).trans rfl; have k1 : w5.cell? ⟨w3.heap.size, 1, none⟩ = some (u) := (blk_cell BP.out 1).trans rfl; have k2 : w5.cell? ⟨w3.heap.size, 2, none⟩ = some (.int .i64 (d : Int)) := (blk_cell BP.out 2).trans rfl; have k3 : w5.cell? ⟨w3.heap.size, 3, none⟩ = some (.int .i64 m.v) := (blk_cell BP.out 3).trans rfl; have k4 : w5.cell? (ad.add (x.toNat * 4)) = some (.int .u8 (rd_T36 l x).f0) := (BL.out.cell (World.block_lt_of_cell? w _ Y.out.1)).trans Y.out.1; have k5 : w5.cell? ⟨(ad.add (x.toNat * 4)).block, (ad.add (x.toNat * 4)).off + 1, none⟩ = some (.int .i64 (rd_T36 l x).f1.f0) := (BL.out.cell (World.block_lt_of_cell? w _ Y.out.2.1)).trans Y.out.2.1; have k6 : w5.cell? ⟨(ad.add (x.toNat * 4)).block, (ad.add (x.toNat * 4)).off + 2, none⟩ = some (.int .i64 (rd_T36 l x).f1.f1) := (BL.out.cell (World.block_lt_of_cell? w _ Y.out.2.2.1)).trans Y.out.2.2.1; have k7 : w5.cell? ⟨(ad.add (x.toNat * 4)).block, (ad.add (x.toNat * 4)).off + 3, none⟩ = some (.string (rd_T36 l x).f1.f2) := (BL.out.cell (World.block_lt_of_cell? w _ Y.out.2.2.2)).trans Y.out.2.2.2)
            | (go_at_call 22; (with_reducible refine (ran_call (w := w) (X := ((W.alloc (.cells #[.int .i64 0, .int .i64 0, .string ⟨#[]⟩] 31)).alloc (.cells #[.string ⟨#[]⟩, .slice none 0 0, .int .i64 0, .int .i64 0] 29)).drew) (P := P) (u := u) (L := L) (d := d) (v := m.v) (s := s) (x := rd_T36 l x) (BW.out.trans (((((Did.refl W (fun _ => False)).alloc _).alloc _).drew.below (B := w.heap.size) BW.out.size (fun _ h => h.elim)))) (Kd.R_step RF.out.row (fun k _ hlt => ((((Did.refl W (fun _ => False)).alloc _).alloc _).drew).block hlt id)) HRN.out).mono ?_); rintro r w5 ⟨A', c', rfl, hrw, hdid⟩; have R1 := Aside0.mk hrw; have D1 : Aside0 (Did W w5 P) := ⟨((((Did.refl W P).alloc _).alloc _).drew).then_ hdid (fun _ h => Or.inl h)⟩; have E2 : Aside0 (w5.heap[W.heap.size]? = some (.cells #[.int .i64 0, .int .i64 0, .string ⟨#[]⟩] 31 (0, 0))) := ⟨blk_kept (blk_drew (blk_alloc (blk_new W _) _)) hdid.kept (fun h => by have := (RF.out.dis _ h).2.2.2; omega)⟩; have eal : W.heap.size < w5.heap.size := blk_lt E2.out; have ea0 : w5.cell? ⟨W.heap.size, 0, none⟩ = some (.int .i64 0) := (blk_cell E2.out 0).trans rfl; have eaf0 := blk_frozen E2.out 0; have ea1 : w5.cell? ⟨W.heap.size, 1, none⟩ = some (.int .i64 0) := (blk_cell E2.out 1).trans rfl; have eaf1 := blk_frozen E2.out 1; have ea2 : w5.cell? ⟨W.heap.size, 2, none⟩ = some (.string ⟨#[]⟩) := (blk_cell E2.out 2).trans rfl; have eaf2 := blk_frozen E2.out 2; have E1 : Aside0 (w5.heap[(W.heap.size + 1)]? = some (.cells #[.string ⟨#[]⟩, .slice none 0 0, .int .i64 0, .int .i64 0] 29 (0, 0))) := ⟨blk_kept (blk_drew (by simpa using blk_new (W.alloc _) _)) hdid.kept (fun h => by have := (RF.out.dis _ h).2.2.2; omega)⟩; have esl : (W.heap.size + 1) < w5.heap.size := blk_lt E1.out; have es0 : w5.cell? ⟨(W.heap.size + 1), 0, none⟩ = some (.string ⟨#[]⟩) := (blk_cell E1.out 0).trans rfl; have esf0 := blk_frozen E1.out 0; have es1 : w5.cell? ⟨(W.heap.size + 1), 1, none⟩ = some (.slice none 0 0) := (blk_cell E1.out 1).trans rfl; have esf1 := blk_frozen E1.out 1; have es2 : w5.cell? ⟨(W.heap.size + 1), 2, none⟩ = some (.int .i64 0) := (blk_cell E1.out 2).trans rfl; have esf2 := blk_frozen E1.out 2; have es3 : w5.cell? ⟨(W.heap.size + 1), 3, none⟩ = some (.int .i64 0) := (blk_cell E1.out 3).trans rfl; have esf3 := blk_frozen E1.out 3; clear hrw hdid; have BP := Aside0.mk (blk_kept RF.out.kp.blk D1.out.kept RF.out.np); have BL : Aside0 (Below w.heap.size w w5) := ⟨BW.out.trans (D1.out.below (B := w.heap.size) BW.out.size (fun k hk => (RF.out.dis k hk).2.2.1))⟩; have k0 : w5.cell? ⟨w3.heap.size, 0, none⟩ = some (.string s) := (blk_cell BP.out 0).trans rfl; have k1 : w5.cell? ⟨w3.heap.size, 1, none⟩ = some (u) := (blk_cell BP.out 1).trans rfl; have k2 : w5.cell? ⟨w3.heap.size, 2, none⟩ = some (.int .i64 (d : Int)) := (blk_cell BP.out 2).trans rfl; have k3 : w5.cell? ⟨w3.heap.size, 3, none⟩ = some (.int .i64 m.v) := (blk_cell BP.out 3).trans rfl; have k4 : w5.cell? (ad.add (x.toNat * 4)) = some (.int .u8 (rd_T36 l x).f0) := (BL.out.cell (World.block_lt_of_cell? w _ Y.out.1)).trans Y.out.1; have k5 : w5.cell? ⟨(ad.add (x.toNat * 4)).block, (ad.add (x.toNat * 4)).off + 1, none⟩ = some (.int .i64 (rd_T36 l x).f1.f0) := (BL.out.cell (World.block_lt_of_cell? w _ Y.out.2.1)).trans Y.out.2.1; have k6 : w5.cell? ⟨(ad.add (x.toNat * 4)).block, (ad.add (x.toNat * 4)).off + 2, none⟩ = some (.int .i64 (rd_T36 l x).f1.f1) := (BL.out.cell (World.block_lt_of_cell? w _ Y.out.2.2.1)).trans Y.out.2.2.1; have k7 : w5.cell? ⟨(ad.add (x.toNat * 4)).block, (ad.add (x.toNat * 4)).off + 3, none⟩ = some (.string (rd_T36 l x).f1.f2) := (BL.out.cell (World.block_lt_of_cell? w _ Y.out.2.2.2)).trans Y.out.2.2.2))
          all_goals go_wp2
          all_goals go_meet
          all_goals have hs1 : ∀ o, (W.alloc o).drew.heap.size = W.heap.size + 1 := fun o => by show (W.alloc o).heap.size = _; simp
          all_goals have hs2 : ∀ o o', ((W.alloc o).alloc o').drew.heap.size = W.heap.size + 2 := fun o o' => by show ((W.alloc o).alloc o').heap.size = _; simp
          all_goals have hW : ∀ k, P k → k < W.heap.size := fun k hk => (RF.out.dis k hk).2.2.2
          · case rel => exact ⟨_, _, A', c', _, rfl, rfl, rfl, ⟨Ran.of (N := W.heap.size) D1.out R1.out (((Did.refl w5 (fun k => k = w5.heap.size ∨ k = w5.heap.size + 1)).alloc _).alloc _) (fun k hk => ⟨hk.1.imp id (fun h => by exact h), hk.2.1, hk.2.2⟩) hW (Nat.le_refl _) (Or.inr (Nat.le_refl _)) (Or.inr (Nat.le_succ _)) (blk_alloc (blk_new w5 _) _) ((by simpa using blk_new (w5.alloc _) _)) (D1.out.size) (Nat.le_succ_of_le D1.out.size) (Nat.ne_of_lt (Nat.lt_succ_self _))⟩⟩
          · case rel => exact ⟨_, _, A', c', _, rfl, rfl, rfl, ⟨Ran.of (N := W.heap.size) D1.out R1.out (((Did.refl w5 (fun k => k = w5.heap.size + 1 ∨ k = w5.heap.size)).alloc _).alloc _) (fun k hk => ⟨hk.1.imp id (fun h => by exact h), hk.2.1, hk.2.2⟩) hW (Nat.le_refl _) (Or.inr (Nat.le_succ _)) (Or.inr (Nat.le_refl _)) ((by simpa using blk_new (w5.alloc _) _)) (blk_alloc (blk_new w5 _) _) (Nat.le_succ_of_le D1.out.size) (D1.out.size) (Nat.ne_of_gt (Nat.lt_succ_self _))⟩⟩
          · case rel => exact ⟨_, _, A', c', _, rfl, rfl, rfl, ⟨Ran.of (N := W.heap.size + 1) D1.out R1.out (((((((Did.refl w5 (fun k => k = W.heap.size ∨ k = w5.heap.size)).setCell (p := ⟨W.heap.size, 0, none⟩) (Or.inl (Or.inl rfl)) _).setCell (p := ⟨W.heap.size, 1, none⟩) (Or.inl (Or.inl rfl)) _).setCell (p := ⟨W.heap.size, 2, none⟩) (Or.inl (Or.inl rfl)) _).setCell (p := ⟨W.heap.size, 3, none⟩) (Or.inl (Or.inl rfl)) _).alloc _)) (fun k hk => ⟨hk.1.imp id (fun h => by rw [hs1] at h; exact h), hk.2.1, hk.2.2⟩) hW (Nat.le_add_right _ _) (Or.inl (Nat.lt_succ_self _)) (Or.inr (Nat.le_refl _)) (blk_alloc (blk_put (blk_put (blk_put (blk_put E1.out 0 _ rfl) 1 _ rfl) 2 _ rfl) 3 _ rfl) _) ((by simpa using blk_new ((((w5.setCell ⟨W.heap.size, 0, none⟩ (.string s)).setCell ⟨W.heap.size, 1, none⟩ (.slice A' L'.length c')).setCell ⟨W.heap.size, 2, none⟩ (.int .i64 (d' : Int))).setCell ⟨W.heap.size, 3, none⟩ (.int .i64 m'.v)) (.cells #[.int .i64 a.f0, .int .i64 a.f1, .string a.f2] 31))) (Nat.le_refl _) (D1.out.size) (Nat.ne_of_lt (blk_lt E1.out))⟩⟩
          · case rel => exact ⟨_, _, A', c', _, rfl, rfl, rfl, ⟨Ran.of (N := W.heap.size + 2) D1.out R1.out (((((((((Did.refl w5 (fun k => k = W.heap.size ∨ k = (W.heap.size + 1))).setCell (p := ⟨W.heap.size, 0, none⟩) (Or.inl (Or.inl rfl)) _).setCell (p := ⟨W.heap.size, 1, none⟩) (Or.inl (Or.inl rfl)) _).setCell (p := ⟨W.heap.size, 2, none⟩) (Or.inl (Or.inl rfl)) _).setCell (p := ⟨W.heap.size, 3, none⟩) (Or.inl (Or.inl rfl)) _).setCell (p := ⟨(W.heap.size + 1), 0, none⟩) (Or.inl (Or.inr rfl)) _).setCell (p := ⟨(W.heap.size + 1), 1, none⟩) (Or.inl (Or.inr rfl)) _).setCell (p := ⟨(W.heap.size + 1), 2, none⟩) (Or.inl (Or.inr rfl)) _)) (fun k hk => ⟨hk.1.imp id (fun h => by rw [hs2] at h; exact h), hk.2.1, hk.2.2⟩) hW (Nat.le_add_right _ _) (Or.inl (by omega)) (Or.inl (by omega)) ((blk_far (blk_far (blk_far (blk_put (blk_put (blk_put (blk_put E1.out 0 _ rfl) 1 _ rfl) 2 _ rfl) 3 _ rfl) (Nat.ne_of_lt (Nat.lt_succ_self _)) _) (Nat.ne_of_lt (Nat.lt_succ_self _)) _) (Nat.ne_of_lt (Nat.lt_succ_self _)) _)) ((blk_put (blk_put (blk_put (blk_far (blk_far (blk_far (blk_far E2.out (Nat.ne_of_gt (Nat.lt_succ_self _)) _) (Nat.ne_of_gt (Nat.lt_succ_self _)) _) (Nat.ne_of_gt (Nat.lt_succ_self _)) _) (Nat.ne_of_gt (Nat.lt_succ_self _)) _) 0 _ rfl) 1 _ rfl) 2 _ rfl)) (Nat.le_refl _) (Nat.le_succ _) (Nat.ne_of_lt (Nat.lt_succ_self _))⟩⟩
          · case rel => exact ⟨_, _, A', c', _, rfl, rfl, rfl, ⟨Ran.of (N := W.heap.size + 1) D1.out R1.out ((((((Did.refl w5 (fun k => k = w5.heap.size ∨ k = W.heap.size)).setCell (p := ⟨W.heap.size, 0, none⟩) (Or.inl (Or.inr rfl)) _).setCell (p := ⟨W.heap.size, 1, none⟩) (Or.inl (Or.inr rfl)) _).setCell (p := ⟨W.heap.size, 2, none⟩) (Or.inl (Or.inr rfl)) _).alloc _)) (fun k hk => ⟨hk.1.imp id (fun h => by rw [hs1] at h; exact h), hk.2.1, hk.2.2⟩) hW (Nat.le_add_right _ _) (Or.inr (Nat.le_refl _)) (Or.inl (Nat.lt_succ_self _)) ((by simpa using blk_new (((w5.setCell ⟨W.heap.size, 0, none⟩ (.int .i64 a.f0)).setCell ⟨W.heap.size, 1, none⟩ (.int .i64 a.f1)).setCell ⟨W.heap.size, 2, none⟩ (.string a.f2)) (.cells #[.string s, .slice A' L'.length c', .int .i64 (d' : Int), .int .i64 m'.v] 29))) (blk_alloc (blk_put (blk_put (blk_put E2.out 0 _ rfl) 1 _ rfl) 2 _ rfl) _) (D1.out.size) (Nat.le_refl _) (Nat.ne_of_gt (blk_lt E2.out))⟩⟩
          · case rel => exact ⟨_, _, A', c', _, rfl, rfl, rfl, ⟨Ran.of (N := W.heap.size + 2) D1.out R1.out (((((((((Did.refl w5 (fun k => k = (W.heap.size + 1) ∨ k = W.heap.size)).setCell (p := ⟨(W.heap.size + 1), 0, none⟩) (Or.inl (Or.inl rfl)) _).setCell (p := ⟨(W.heap.size + 1), 1, none⟩) (Or.inl (Or.inl rfl)) _).setCell (p := ⟨(W.heap.size + 1), 2, none⟩) (Or.inl (Or.inl rfl)) _).setCell (p := ⟨(W.heap.size + 1), 3, none⟩) (Or.inl (Or.inl rfl)) _).setCell (p := ⟨W.heap.size, 0, none⟩) (Or.inl (Or.inr rfl)) _).setCell (p := ⟨W.heap.size, 1, none⟩) (Or.inl (Or.inr rfl)) _).setCell (p := ⟨W.heap.size, 2, none⟩) (Or.inl (Or.inr rfl)) _)) (fun k hk => ⟨hk.1.imp id (fun h => by rw [hs2] at h; exact h), hk.2.1, hk.2.2⟩) hW (Nat.le_add_right _ _) (Or.inl (by omega)) (Or.inl (by omega)) ((blk_far (blk_far (blk_far (blk_put (blk_put (blk_put (blk_put E1.out 0 _ rfl) 1 _ rfl) 2 _ rfl) 3 _ rfl) (Nat.ne_of_gt (Nat.lt_succ_self _)) _) (Nat.ne_of_gt (Nat.lt_succ_self _)) _) (Nat.ne_of_gt (Nat.lt_succ_self _)) _)) ((blk_put (blk_put (blk_put (blk_far (blk_far (blk_far (blk_far E2.out (Nat.ne_of_lt (Nat.lt_succ_self _)) _) (Nat.ne_of_lt (Nat.lt_succ_self _)) _) (Nat.ne_of_lt (Nat.lt_succ_self _)) _) (Nat.ne_of_lt (Nat.lt_succ_self _)) _) 0 _ rfl) 1 _ rfl) 2 _ rfl)) (Nat.le_succ _) (Nat.le_refl _) (Nat.ne_of_gt (Nat.lt_succ_self _))⟩⟩
        case rest =>
          obtain ⟨q1, q2, A', c', P', rfl, rfl, rfl, RN⟩ := hcut
          have BP := Aside0.mk (blk_kept RF.out.kp.blk RN.out.did.kept RF.out.np)
          have hp1 : w3.heap.size < wc.heap.size := blk_lt BP.out
          have hq1 : q1 < wc.heap.size := blk_lt RN.out.b1
          have hne1 : q1 ≠ w3.heap.size := by have := RN.out.ge1; have := blk_lt RF.out.kp.blk; omega
          have hne2 : w3.heap.size ≠ q1 := hne1.symm
          clear c0 c1 c2 c3 y0 y1 y2 y3
          have e0 : wc.cell? ⟨q1, 0, none⟩ = some (.string s) := (blk_cell RN.out.b1 0).trans rfl
          have e1 : wc.cell? ⟨q1, 1, none⟩ = some (.slice A' L'.length c') := (blk_cell RN.out.b1 1).trans rfl
          have e2 : wc.cell? ⟨q1, 2, none⟩ = some (.int .i64 (d' : Int)) := (blk_cell RN.out.b1 2).trans rfl
          have e3 : wc.cell? ⟨q1, 3, none⟩ = some (.int .i64 m'.v) := (blk_cell RN.out.b1 3).trans rfl
          have c0 : wc.cell? ⟨w3.heap.size, 0, none⟩ = some (.string s) := (blk_cell BP.out 0).trans rfl
          have c1 : wc.cell? ⟨w3.heap.size, 1, none⟩ = some u := (blk_cell BP.out 1).trans rfl
          have c2 : wc.cell? ⟨w3.heap.size, 2, none⟩ = some (.int .i64 (d : Int)) := (blk_cell BP.out 2).trans rfl
          have c3 : wc.cell? ⟨w3.heap.size, 3, none⟩ = some (.int .i64 m.v) := (blk_cell BP.out 3).trans rfl
          have f0 := blk_frozen BP.out 0
          have f1 := blk_frozen BP.out 1
          have f2 := blk_frozen BP.out 2
          have f3 := blk_frozen BP.out 3
          go_wp2_with fail
          have hdD : Did wc ((((wc.setCell ⟨w3.heap.size, 0, none⟩ (.string s)).setCell ⟨w3.heap.size, 1, none⟩ (.slice A' L'.length c')).setCell ⟨w3.heap.size, 2, none⟩ (.int .i64 (d' : Int))).setCell ⟨w3.heap.size, 3, none⟩ (.int .i64 m'.v)) (fun k => k = w3.heap.size) := ((((Did.refl wc (fun k => k = w3.heap.size)).setCell (p := ⟨w3.heap.size, 0, none⟩) (Or.inl rfl) _).setCell (p := ⟨w3.heap.size, 1, none⟩) (Or.inl rfl) _).setCell (p := ⟨w3.heap.size, 2, none⟩) (Or.inl rfl) _).setCell (p := ⟨w3.heap.size, 3, none⟩) (Or.inl rfl) _
          have hbD : ((((wc.setCell ⟨w3.heap.size, 0, none⟩ (.string s)).setCell ⟨w3.heap.size, 1, none⟩ (.slice A' L'.length c')).setCell ⟨w3.heap.size, 2, none⟩ (.int .i64 (d' : Int))).setCell ⟨w3.heap.size, 3, none⟩ (.int .i64 m'.v)).heap[w3.heap.size]? = some (.cells #[.string s, .slice A' L'.length c', .int .i64 (d' : Int), .int .i64 m'.v] 29 (0, 0)) := blk_put (blk_put (blk_put (blk_put BP.out 0 _ rfl) 1 _ rfl) 2 _ rfl) 3 _ rfl
          generalize (((wc.setCell ⟨w3.heap.size, 0, none⟩ (.string s)).setCell ⟨w3.heap.size, 1, none⟩ (.slice A' L'.length c')).setCell ⟨w3.heap.size, 2, none⟩ (.int .i64 (d' : Int))).setCell ⟨w3.heap.size, 3, none⟩ (.int .i64 m'.v) = wd at hdD hbD ⊢
          have hFW : ∀ k, F' k → k < W.heap.size := fun k hk => (I5.out.st.hist.lt k hk).2
          have RD := Aside0.mk (RN.out.ref RF.out hFW hdD hbD)
          have SD := Aside0.mk ((I5.out.st.past RN.out.did (fun k hk hp => (RF.out.dis k hp).1 hk) (fun k hk => (RF.out.dis k hk).2.2.1)).past hdD (fun k hk h => RF.out.kp.out (h ▸ hk)) (fun k hk => by rw [hk]; exact RF.out.lo))
          have hn8 : w4.heap.size ≠ w3.heap.size := blk_ne K8.out.blk RF.out.kp.blk (by decide)
          have X8 := Aside0.mk (blk_kept (blk_kept K8.out.blk RN.out.did.kept N8.out) hdD.kept hn8)
          have hnq : q2 ≠ w3.heap.size := by have := RN.out.ge2; have := blk_lt RF.out.kp.blk; omega
          have X2 := Aside0.mk (blk_kept RN.out.b2 hdD.kept hnq)
          clear hdD hbD hFW hn8 hnq e0 e1 e2 e3 c0 c1 c2 c3 f0 f1 f2 f3 BP hp1 hq1 hne1 hne2
          refine (depth_sim SD.out HS'.out).mono ?_
          rintro r w6 ⟨rfl, hb6⟩
          have R6 := Aside0.mk (RD.out.below hb6)
          have S6 := Aside0.mk (SD.out.below hb6)
          have V8 := Aside0.mk (blk_below X8.out hb6)
          have V2 := Aside0.mk (blk_below X2.out hb6)
          clear hb6 X8 X2 SD RD
          go_wp2_with fail
          have z0 : w6.cell? ⟨w4.heap.size, 0, none⟩ = some (.int .i64 a.f0) := (blk_cell V8.out 0).trans rfl
          have z1 : w6.cell? ⟨w4.heap.size, 1, none⟩ = some (.int .i64 a.f1) := (blk_cell V8.out 1).trans rfl
          have z2 : w6.cell? ⟨w4.heap.size, 2, none⟩ = some (.string a.f2) := (blk_cell V8.out 2).trans rfl
          have z3 : w6.cell? ⟨q2, 0, none⟩ = some (.int .i64 a.f0) := (blk_cell V2.out 0).trans rfl
          have z4 : w6.cell? ⟨q2, 1, none⟩ = some (.int .i64 a.f1) := (blk_cell V2.out 1).trans rfl
          have z5 : w6.cell? ⟨q2, 2, none⟩ = some (.string a.f2) := (blk_cell V2.out 2).trans rfl
          have z6 : w6.cell? ⟨w3.heap.size, 0, none⟩ = some (.string s) := (blk_cell R6.out.kp.blk 0).trans rfl
          have z7 : w6.cell? ⟨w3.heap.size, 1, none⟩ = some (.slice A' L'.length c') := (blk_cell R6.out.kp.blk 1).trans rfl
          have z8 : w6.cell? ⟨w3.heap.size, 2, none⟩ = some (.int .i64 (d' : Int)) := (blk_cell R6.out.kp.blk 2).trans rfl
          have z9 : w6.cell? ⟨w3.heap.size, 3, none⟩ = some (.int .i64 m'.v) := (blk_cell R6.out.kp.blk 3).trans rfl
          have hdl : (d' : Int) ≤ L'.length := by have := HS'.out.le; omega
          have hl40 : (L'.length : Int) ≤ 40 := by have := HS'.out.few; omega
          have hwr : IntKind.i64.wrap ((L'.length : Int) - (d' : Int)) = (L'.length : Int) - (d' : Int) := IntWalk.i64_in _ (by omega)
          have S7 := Aside0.mk (S6.out.below ((Below.refl _ _).drew))
          have R7 := Aside0.mk (R6.out.below ((Below.refl _ _).drew))
          go_region_held3 (fun w' => w'.cell? ⟨w4.heap.size, 0, none⟩ = some (.int .i64 a.f0) ∧ w'.cell? ⟨w4.heap.size, 1, none⟩ = some (.int .i64 a.f1) ∧ w'.cell? ⟨w4.heap.size, 2, none⟩ = some (.string a.f2) ∧ w'.cell? ⟨q2, 0, none⟩ = some (.int .i64 a.f0) ∧ w'.cell? ⟨q2, 1, none⟩ = some (.int .i64 a.f1) ∧ w'.cell? ⟨q2, 2, none⟩ = some (.string a.f2) ∧ w'.cell? ⟨w3.heap.size, 0, none⟩ = some (.string s) ∧ w'.cell? ⟨w3.heap.size, 1, none⟩ = some (.slice A' L'.length c') ∧ w'.cell? ⟨w3.heap.size, 2, none⟩ = some (.int .i64 (d' : Int)) ∧ w'.cell? ⟨w3.heap.size, 3, none⟩ = some (.int .i64 m'.v))
            (first | exact ⟨kk0, kk1, kk2, kk3, kk4, kk5, kk6, kk7, kk8, kk9⟩ | exact ⟨z0, z1, z2, z3, z4, z5, z6, z7, z8, z9⟩ | go_keep)
            (first
            | (go_at_call 24; (with_reducible refine (text_st S7.out m'.t rfl).mono ?_); rintro r w7 ⟨rfl, rfl⟩)
            | (go_at_call 25; (with_reducible refine (rtext_call m'.v HS'.out R7.out.row).mono ?_); rintro r w8 ⟨rfl, hb8⟩; have R8 := Aside0.mk (R7.out.below hb8); have S8 := Aside0.mk (S7.out.below hb8); have W8 := Aside0.mk (blk_below (blk_drew V8.out) hb8); have W2 := Aside0.mk (blk_below (blk_drew V2.out) hb8); clear hb8; have kk0 := (blk_cell W8.out 0).trans rfl; have kk1 := (blk_cell W8.out 1).trans rfl; have kk2 := (blk_cell W8.out 2).trans rfl; have kk3 := (blk_cell W2.out 0).trans rfl; have kk4 := (blk_cell W2.out 1).trans rfl; have kk5 := (blk_cell W2.out 2).trans rfl; have kk6 := (blk_cell R8.out.kp.blk 0).trans rfl; have kk7 := (blk_cell R8.out.kp.blk 1).trans rfl; have kk8 := (blk_cell R8.out.kp.blk 2).trans rfl; have kk9 := (blk_cell R8.out.kp.blk 3).trans rfl)
            | (go_at_call 26; (with_reducible refine (version_st S8.out m'.v rfl).mono ?_); rintro r w9 ⟨rfl, rfl⟩))
          go_wp2
          go_roundg k1
          case measure => omega
          case rel => exact ⟨x + 1, F', P', m', _, L', d', (by first | rfl | rw [HW.out]), ⟨by have := HX0.out; omega, by have := HK.out; omega, by rw [show (x + 1).toNat = x.toNat + 1 from by have := HX0.out; omega]; exact ⟨S8.out, I5.out.gd, I5.out.sm, I5.out.wb⟩, R8.out, HS'.out, by rw [show (x + 1).toNat = x.toNat + 1 from by have := HX0.out; omega]; exact HL.out, by rw [show (x + 1).toNat = x.toNat + 1 from by have := HX0.out; omega]; exact HZ.out⟩⟩
  · have HF := Aside0.mk hf
    clear hf
    go_enter Try.func3, Try.ntmps3
    go_wp2_with fail
    refine (awake_any w).mono ?_
    rintro r w1 ⟨rfl, hb⟩
    have B1 := Aside0.mk hb
    clear hb
    go_wp2_with fail
    refine (few_no s A c l w1 hs (Kd.C_below HR.out B1.out) HC.out HO.out HY.out HF.out).mono ?_
    rintro r w2 ⟨rfl, hb⟩
    have B2 := Aside0.mk (B1.out.trans (hb.mono B1.out.size))
    clear hb B1
    go_wp2_with fail
    go_ret
    exact ⟨rfl, B2.out⟩
end Go.Proofs.Ytnmgcghbfnpofaa.Hist
namespace Go.Proofs.Ytnmgcghbfnpofaa.Walk
open Go.RowKit Go.Proofs.Ytnmgcghbfnpofaa.PAll Go.Proofs.YtnmgcghbfnpofaaW.PrintWords Go.Proofs.Ytnmgcghbfnpofaa.Open
theorem UndoHistory (s : ByteArray) (A : Option Addr) (c : Nat) (l : List S36) (w : World) (hs : s.size ≤ 140737488351232) (hr : Kd.C k36 w A l.length l) (hc : l.length ≤ c) (ho : ∀ x ∈ l, OkS x) (hy : l.length * 40 ≤ 140737488351232) :
    Calls Try.prog 3 #[.string s, .slice A l.length c] w fun r w' => r = .returned (.bool true) ∧ Below w.heap.size w w' := Hist.history_walk s A c l w hs hr hc ho hy
end Go.Proofs.Ytnmgcghbfnpofaa.Walk
